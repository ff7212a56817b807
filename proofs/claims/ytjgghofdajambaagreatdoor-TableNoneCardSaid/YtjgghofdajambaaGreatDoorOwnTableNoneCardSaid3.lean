/- What the functions that TableNoneCardSaid reaches compute: part 3. -/
import Derived.Test.YtjgghofdajambaaGreatDoorOwnTableNoneCardSaid2
set_option linter.unusedVariables false
set_option linter.unusedSimpArgs false
namespace Go.Proofs.R7
open Go Go.AE
set_option maxRecDepth 100000
--@ loghead_Newer
noncomputable def envq31 : Env := [(216,.pure Fq29)]
theorem envq31Ok : EnvOk Tryz.prog envq31 := EnvOk.cons Fq29_ok (EnvOk.nil)
noncomputable def bq31 : Code := Tryz.f178.body.getD .skip
noncomputable def Lq31_n2 : Code := codeAt [1,1,1,0,1,0,0,1,1,0,0,1,1,0] bq31
noncomputable def annLq31_n2 : Ann := .none
theorem annLq31_n2_ok : AnnOk Tryz.prog 49 Lq31_n2 annLq31_n2 := (annOk_none _ _ _)
abbrev Iq31_n2 := (Bool) × (Int) × (Int) × (Int) × (Int) × (Int) × (Int) × (Int) × (Int) × (Int) × (List (List UInt8))
abbrev Yq31_n2 := (Bool)
def Sq31_n2 : Iq31_n2 → St := fun (t7,t11,t15,t16,o1_0,o1_1,o1_2,o2_0,o2_1,o2_2,o3) => { env := [(4,.ptr 0 0),(6,.ptr 1 0),(7,.bool t7),(10,.ptr 2 0),(11,.int .i64 t11),(14,.own 3),(15,.int .i64 t15),(16,.int .i64 t16)],stk := [[]],H := [.cells [.int .i64 (0),.int .i64 (0),.int .i64 (0)],.cells [.int .i64 o1_0,.int .i64 o1_1,.int .i64 o1_2],.cells [.int .i64 o2_0,.int .i64 o2_1,.int .i64 o2_2],.arr .str o3],blk := 729089 }
def decPq31_n2 (s : St) : Option {x : Iq31_n2 // s = Sq31_n2 x} := match s with
  | { env := [(4,.ptr 0 0),(6,.ptr 1 0),(7,.bool t7),(10,.ptr 2 0),(11,.int .i64 t11),(14,.own 3),(15,.int .i64 t15),(16,.int .i64 t16)],stk := [[]],H := [.cells [.int .i64 r4,.int .i64 r5,.int .i64 r6],.cells [.int .i64 o1_0,.int .i64 o1_1,.int .i64 o1_2],.cells [.int .i64 o2_0,.int .i64 o2_1,.int .i64 o2_2],.arr .str o3],blk := 729089 } => if h4 : r4 = 0 then if h5 : r5 = 0 then if h6 : r6 = 0 then some ⟨(t7,t11,t15,t16,o1_0,o1_1,o1_2,o2_0,o2_1,o2_2,o3),by subst h4 h5 h6; rfl⟩ else none else none else none
  | _ => none
def decq31_n2 (s : St) : Option Iq31_n2 := pk (decPq31_n2 s)
theorem decq31_n2_ok (s : St) (x : Iq31_n2) (h : decq31_n2 s = some x) : s = Sq31_n2 x := pk_ok (o := decPq31_n2 s) h
def outq31_n2 : Iq31_n2 → (Ex → St → Ans) → Yq31_n2 → Ans := fun (t7,t11,t15,t16,o1_0,o1_1,o1_2,o2_0,o2_1,o2_2,o3) K => fun t42_y => K (Ex.norm) { env := [(4,.ptr 0 0),(6,.ptr 1 0),(7,.bool t7),(10,.ptr 2 0),(14,.own 3),(15,.int .i64 t15),(16,.int .i64 t16),(42,.bool t42_y)],stk := [[]],H := [.cells [.int .i64 (0),.int .i64 (0),.int .i64 (0)],.cells [.int .i64 o1_0,.int .i64 o1_1,.int .i64 o1_2],.cells [.int .i64 o2_0,.int .i64 o2_1,.int .i64 o2_2],.arr .str o3],blk := 729089 }
def nodeq31_n2 {β : Type} : Iq31_n2 → (Yq31_n2 → Option β) → Option β := fun (t7,t11,t15,t16,o1_0,o1_1,o1_2,o2_0,o2_1,o2_2,o3) exit => (bif t11 == (0 : Int) then (bif !t7 then (exit (true)) else (bif !(o2_0 == o1_0 && (o2_1 == o1_1 && (o2_2 == o1_2 && true))) then (exit (decide (o2_0 > o1_0))) else (exit (false)))) else (exit (false)))
def nodeDq31_n2 (i : Iq31_n2) : Option Yq31_n2 := nodeq31_n2 i some
theorem nodeq31_n2_nat (i : Iq31_n2) (k : Yq31_n2 → Ans) : nodeq31_n2 i k = bindO (nodeDq31_n2 i) k := by
  obtain ⟨t7,t11,t15,t16,o1_0,o1_1,o1_2,o2_0,o2_1,o2_2,o3⟩ := i
  simp only [nodeDq31_n2,nodeq31_n2,bindO_cond,bindO_assoc,bindO_none,bindO_pure,bindO_elim,bindO_unP,bindO_empty]
theorem nodeq31_n2_ok (i : Iq31_n2) (K : Ex → St → Ans) : codeI Tryz.tab envq31 noHint (codeD Tryz.tab envq31 noHint 0 64) 70 49 annLq31_n2 Lq31_n2 (weakP 0 (exk [4,6,7,10,14,15,16,42] [4,5] []) K) (Sq31_n2 i) = nodeq31_n2 i (outq31_n2 i K) := by kernel_rfl
theorem GNq31_n2_ok : CSum Tryz.prog 49 Lq31_n2 (sumN decq31_n2 nodeDq31_n2 outq31_n2) := csum_node mixed tabOk envq31Ok 0 (exk [4,6,7,10,14,15,16,42] [4,5] []) annLq31_n2_ok decq31_n2_ok nodeq31_n2_ok nodeq31_n2_nat
noncomputable def Gq31_n2 : (Ex → St → Ans) → St → Ans := (sumN decq31_n2 nodeDq31_n2 outq31_n2)
theorem Gq31_n2_ok : CSum Tryz.prog 49 Lq31_n2 Gq31_n2 := GNq31_n2_ok
noncomputable def Lq31_n1 : Code := codeAt [1,1,1,0,1,0,0,1,1,0] bq31
noncomputable def annLq31_n1 : Ann := (.block (.seq .none (.seq .none (.seq (.cut 0 [4,6,7,10,11,14,15,16] Gq31_n2) .none))))
theorem annLq31_n1_ok : AnnOk Tryz.prog 49 Lq31_n1 annLq31_n1 := ⟨(annOk_none _ _ _),⟨(annOk_none _ _ _),⟨Gq31_n2_ok,(annOk_none _ _ _)⟩⟩⟩
abbrev Iq31_n1 := (Bool) × (Int) × (Int) × (Int) × (Int) × (Int) × (List (List UInt8))
abbrev Yq31_n1 := (Bool) × (Int) × (Int) × (Int)
def Sq31_n1 : Iq31_n1 → St := fun (t7,t15,t16,o1_0,o1_1,o1_2,o2) => { env := [(4,.ptr 0 0),(6,.ptr 1 0),(7,.bool t7),(14,.own 2),(15,.int .i64 t15),(16,.int .i64 t16)],stk := [[]],H := [.cells [.int .i64 (0),.int .i64 (0),.int .i64 (0)],.cells [.int .i64 o1_0,.int .i64 o1_1,.int .i64 o1_2],.arr .str o2],blk := 729088 }
def decPq31_n1 (s : St) : Option {x : Iq31_n1 // s = Sq31_n1 x} := match s with
  | { env := [(4,.ptr 0 0),(6,.ptr 1 0),(7,.bool t7),(14,.own 2),(15,.int .i64 t15),(16,.int .i64 t16)],stk := [[]],H := [.cells [.int .i64 r3,.int .i64 r4,.int .i64 r5],.cells [.int .i64 o1_0,.int .i64 o1_1,.int .i64 o1_2],.arr .str o2],blk := 729088 } => if h3 : r3 = 0 then if h4 : r4 = 0 then if h5 : r5 = 0 then some ⟨(t7,t15,t16,o1_0,o1_1,o1_2,o2),by subst h3 h4 h5; rfl⟩ else none else none else none
  | _ => none
def decq31_n1 (s : St) : Option Iq31_n1 := pk (decPq31_n1 s)
theorem decq31_n1_ok (s : St) (x : Iq31_n1) (h : decq31_n1 s = some x) : s = Sq31_n1 x := pk_ok (o := decPq31_n1 s) h
def outq31_n1 : Iq31_n1 → (Ex → St → Ans) → Yq31_n1 → Ans := fun (t7,t15,t16,o1_0,o1_1,o1_2,o2) K => unP fun t7_y => unP fun o1_0_y => unP fun o1_1_y o1_2_y => K (Ex.norm) { env := [(4,.ptr 0 0),(6,.ptr 1 0),(7,.bool t7_y),(14,.own 2),(15,.int .i64 t15),(16,.int .i64 t16)],stk := [[]],H := [.cells [.int .i64 (0),.int .i64 (0),.int .i64 (0)],.cells [.int .i64 o1_0_y,.int .i64 o1_1_y,.int .i64 o1_2_y],.arr .str o2],blk := 729089 }
def nodeq31_n1 {β : Type} : Iq31_n1 → (Yq31_n1 → Option β) → Option β := fun (t7,t15,t16,o1_0,o1_1,o1_2,o2) exit => (bif inR t16 (List.length o2) then (bindO (o2[Int.toNat t16]?) fun x => (bindO (fnDq29 (x)) (unP fun r_0_0 => unP fun r_0_1 => unP fun r_0_2 r_1 => (bindO (nodeDq31_n2 (t7,r_1,t15,t16,o1_0,o1_1,o1_2,r_0_0,r_0_1,r_0_2,o2)) fun t42 => (bif t42 then (exit (true,r_0_0,r_0_1,r_0_2)) else (exit (t7,o1_0,o1_1,o1_2))))))) else none)
def nodeDq31_n1 (i : Iq31_n1) : Option Yq31_n1 := nodeq31_n1 i some
theorem nodeq31_n1_nat (i : Iq31_n1) (k : Yq31_n1 → Ans) : nodeq31_n1 i k = bindO (nodeDq31_n1 i) k := by
  obtain ⟨t7,t15,t16,o1_0,o1_1,o1_2,o2⟩ := i
  simp only [nodeDq31_n1,nodeq31_n1,bindO_cond,bindO_assoc,bindO_none,bindO_pure,bindO_elim,bindO_unP,bindO_empty]
theorem nodeq31_n1_ok (i : Iq31_n1) (K : Ex → St → Ans) : codeI Tryz.tab envq31 noHint (codeD Tryz.tab envq31 noHint 0 64) 70 49 annLq31_n1 Lq31_n1 (weakP 0 (exk [4,6,7,14,15,16] [4,5] []) K) (Sq31_n1 i) = nodeq31_n1 i (outq31_n1 i K) := by kernel_rfl
theorem GNq31_n1_ok : CSum Tryz.prog 49 Lq31_n1 (sumN decq31_n1 nodeDq31_n1 outq31_n1) := csum_node mixed tabOk envq31Ok 0 (exk [4,6,7,14,15,16] [4,5] []) annLq31_n1_ok decq31_n1_ok nodeq31_n1_ok nodeq31_n1_nat
noncomputable def Gq31_n1 : (Ex → St → Ans) → St → Ans := (sumN decq31_n1 nodeDq31_n1 outq31_n1)
theorem Gq31_n1_ok : CSum Tryz.prog 49 Lq31_n1 Gq31_n1 := GNq31_n1_ok
noncomputable def Lq31_n0 : Code := codeAt [1,1,1,0,1,0,0] bq31
noncomputable def annLq31_n0 : Ann := .at 0 [4,6,7,14,15,16] (.loop (.seq .none (.seq .none (.seq (.cut 0 [4,6,7,14,15,16] Gq31_n1) .none))))
theorem annLq31_n0_ok : AnnOk Tryz.prog 49 (.loop Lq31_n0) annLq31_n0 := annOk_at ⟨(annOk_none _ _ _),⟨(annOk_none _ _ _),⟨Gq31_n1_ok,(annOk_none _ _ _)⟩⟩⟩
abbrev Iq31_n0 := (Int) × (List (List UInt8))
abbrev Yq31_n0 := (Bool) × (Int) × (Int) × (Int)
abbrev Vq31_n0 := (Bool) × (Int) × (Int) × (Int) × (Int)
def Sq31_n0 : Iq31_n0 → Vq31_n0 → St := fun (t15,o2) (t7,t16,o1_0,o1_1,o1_2) => { env := [(4,.ptr 0 0),(6,.ptr 1 0),(7,.bool t7),(14,.own 2),(15,.int .i64 t15),(16,.int .i64 t16)],stk := [[]],H := [.cells [.int .i64 (0),.int .i64 (0),.int .i64 (0)],.cells [.int .i64 o1_0,.int .i64 o1_1,.int .i64 o1_2],.arr .str o2],blk := 729088 }
def decPq31_n0 (s : St) : Option {x : Iq31_n0 × Vq31_n0 // s = Sq31_n0 x.1 x.2} := match s with
  | { env := [(4,.ptr 0 0),(6,.ptr 1 0),(7,.bool t7),(14,.own 2),(15,.int .i64 t15),(16,.int .i64 t16)],stk := [[]],H := [.cells [.int .i64 r3,.int .i64 r4,.int .i64 r5],.cells [.int .i64 o1_0,.int .i64 o1_1,.int .i64 o1_2],.arr .str o2],blk := 729088 } => if h3 : r3 = 0 then if h4 : r4 = 0 then if h5 : r5 = 0 then some ⟨((t15,o2),(t7,t16,o1_0,o1_1,o1_2)),by subst h3 h4 h5; rfl⟩ else none else none else none
  | _ => none
def decq31_n0 (s : St) : Option (Iq31_n0 × Vq31_n0) := pk (decPq31_n0 s)
theorem decq31_n0_ok (s : St) (x : Iq31_n0 × Vq31_n0) (h : decq31_n0 s = some x) : s = Sq31_n0 x.1 x.2 := pk_ok (o := decPq31_n0 s) h
def outq31_n0 : Iq31_n0 → (Ex → St → Ans) → Yq31_n0 → Ans := fun (t15,o2) K => unP fun t7_y => unP fun o1_0_y => unP fun o1_1_y o1_2_y => K (Ex.exit 0) { env := [(4,.ptr 0 0),(6,.ptr 1 0),(7,.bool t7_y)],stk := [[]],H := [.cells [.int .i64 (0),.int .i64 (0),.int .i64 (0)],.cells [.int .i64 o1_0_y,.int .i64 o1_1_y,.int .i64 o1_2_y]],blk := 729088 }
def stepq31_n0 {β : Type} : Iq31_n0 → Vq31_n0 → (Vq31_n0 → Option β) → (Yq31_n0 → Option β) → Option β := fun (t15,o2) (t7,t16,o1_0,o1_1,o1_2) next exit => (bif decide (t16 < t15) then (bindO (nodeDq31_n1 (t7,t15,t16,o1_0,o1_1,o1_2,o2)) (unP fun t7_2 => unP fun o1_0_2 => unP fun o1_1_2 o1_2_2 => (next (t7_2,IntKind.wrap .i64 (t16 + (1 : Int)),o1_0_2,o1_1_2,o1_2_2)))) else (exit (t7,o1_0,o1_1,o1_2)))
def stepDq31_n0 (i : Iq31_n0) (v : Vq31_n0) : Option (Vq31_n0 ⊕ Yq31_n0) := stepq31_n0 i v (fun v => some (.inl v)) (fun y => some (.inr y))
theorem stepq31_n0_nat (i : Iq31_n0) (v : Vq31_n0) (next : Vq31_n0 → Ans) (exit : Yq31_n0 → Ans) : stepq31_n0 i v next exit = bindO (stepDq31_n0 i v) (Sum.elim next exit) := by
  obtain ⟨t15,o2⟩ := i
  obtain ⟨t7,t16,o1_0,o1_1,o1_2⟩ := v
  simp only [stepDq31_n0,stepq31_n0,bindO_cond,bindO_assoc,bindO_none,bindO_pure,bindO_elim,bindO_unP,bindO_empty,Sum.elim_inl,Sum.elim_inr]
theorem stepq31_n0_ok (n : Nat) (i : Iq31_n0) (v : Vq31_n0) (K : Ex → St → Ans) : codeI Tryz.tab envq31 noHint (codeD Tryz.tab envq31 noHint 0 64) (n+1) 49 annLq31_n0 (.loop Lq31_n0) (weakP 0 (exk [4,6,7] [4,5] [(0,[4,6,7])]) K) (Sq31_n0 i v) = stepq31_n0 i v (fun v' => codeI Tryz.tab envq31 noHint (codeD Tryz.tab envq31 noHint 0 64) n 49 annLq31_n0 (.loop Lq31_n0) (weakP 0 (exk [4,6,7] [4,5] [(0,[4,6,7])]) K) (Sq31_n0 i v')) (fun y => outq31_n0 i K y) := by kernel_rfl
theorem GNq31_n0_ok : CSum Tryz.prog 49 (.loop Lq31_n0) (sumL decq31_n0 stepDq31_n0 outq31_n0) := csum_loop mixed tabOk envq31Ok 0 (exk [4,6,7] [4,5] [(0,[4,6,7])]) annLq31_n0_ok decq31_n0_ok stepq31_n0_ok stepq31_n0_nat
noncomputable def Gq31_n0 : (Ex → St → Ans) → St → Ans := (sumL decq31_n0 stepDq31_n0 outq31_n0)
theorem Gq31_n0_ok : CSum Tryz.prog 49 (.loop Lq31_n0) Gq31_n0 := GNq31_n0_ok
noncomputable def annq31 : Ann := (.seq .none (.seq .none (.seq .none (.seq (.seq .none (.block (.cut 0 [4,6,7,14,15,16] Gq31_n0))) .none))))
theorem annq31_ok : AnnOk Tryz.prog 49 bq31 annq31 := ⟨(annOk_none _ _ _),⟨(annOk_none _ _ _),⟨(annOk_none _ _ _),⟨⟨(annOk_none _ _ _),Gq31_n0_ok⟩,(annOk_none _ _ _)⟩⟩⟩⟩
abbrev Aq31 := (List UInt8) × (List UInt8)
abbrev Yq31 := (Int) × (Int) × (Int) × (Int)
def fnq31 {β : Type} : Aq31 → (Yq31 → Option β) → Option β := fun (a0,a1) exit => (bindO (loopD (stepDq31_n0 ((↑(List.length [a0,a1]) : Int),[a0,a1])) FUEL (false,(0 : Int),(0 : Int),(0 : Int),(0 : Int))) (unP fun t7 => unP fun o1_0 => unP fun o1_1 o1_2 => (bif !t7 then (exit (o1_0,o1_1,o1_2,(8 : Int))) else (exit (o1_0,o1_1,o1_2,(0 : Int))))))
def fnDq31 (a : Aq31) : Option Yq31 := fnq31 a some
theorem fnq31_nat (a : Aq31) (k : Yq31 → Ans) : fnq31 a k = bindO (fnDq31 a) k := by
  obtain ⟨a0,a1⟩ := a
  simp only [fnDq31,fnq31,bindO_cond,bindO_assoc,bindO_none,bindO_pure,bindO_elim,bindO_unP,bindO_empty]
def argsq31 : Aq31 → List AV := fun (a0,a1) => [.str a0,.str a1]
def decPAq31 (l : List AV) : Option {a : Aq31 // l = argsq31 a} := match l with
  | [.str a0,.str a1] => some ⟨(a0,a1),rfl⟩
  | _ => none
def decAq31 (l : List AV) : Option Aq31 := pk (decPAq31 l)
theorem decAq31_ok (l : List AV) (a : Aq31) (h : decAq31 l = some a) : l = argsq31 a := pk_ok (o := decPAq31 l) h
def rendq31 : Aq31 → Yq31 → AV := fun (a0,a1) => unP fun r_0_0_y => unP fun r_0_1_y => unP fun r_0_2_y r_1_y => .tup [.agg [.int .i64 r_0_0_y,.int .i64 r_0_1_y,.int .i64 r_0_2_y],.int .i64 r_1_y]
theorem rendq31_ok : ∀ (a : Aq31) (y : Yq31),(rendq31 a y).closed1 = true := by
  rintro ⟨a0,a1⟩ y <;> first | rfl | exact Empty.elim y
theorem fnq31_ok (a : Aq31) : fnE Tryz.tab envq31 noHint 0 70 178 Tryz.f178.ntmps Tryz.f178.results.toList annq31 bq31 (argsq31 a) [] (fun v _ => some (v,[])) = fnq31 a (fun y => some (rendq31 a y,[])) := by kernel_rfl
def vFq31 (a : Aq31) (K : AV → Ans) : Ans := bindO (fnDq31 a) fun y => K (rendq31 a y)
def Fq31 : List AV → (AV → Ans) → Ans := fun l K => bindO (decAq31 l) fun a => vFq31 a K
theorem Fq31_ok : PureOk Tryz.prog 178 Fq31 := pure_mkD (hint := noHint) (d := 0) (n := 70) mixed tabOk envq31Ok Tryz.func178 (bodySome (by kernel_rfl)) (by decide +kernel) annq31_ok decAq31_ok fnq31_ok fnq31_nat rendq31_ok
--@ region_Region_Place
noncomputable def envq54 : Env := []
theorem envq54Ok : EnvOk Tryz.prog envq54 := EnvOk.nil
noncomputable def bq54 : Code := Tryz.f209.body.getD .skip
noncomputable def Lq54_n1 : Code := codeAt [1,0,0,1,1,0] bq54
noncomputable def annLq54_n1 : Ann := .none
theorem annLq54_n1_ok : AnnOk Tryz.prog 26 Lq54_n1 annLq54_n1 := (annOk_none _ _ _)
abbrev Iq54_n1 := (Int) × (Int) × (Int) × (Int) × (Int) × (Bool) × (List (List UInt8)) × (List (Int × List UInt8)) × (List (Int × List UInt8)) × (List Int)
abbrev Yq54_n1 := (Bool)
def Sq54_n1 : Iq54_n1 → St := fun (t1,o0_1,o0_2,o1_3,o1_5,o1_6,o2,o3,o4,o5) => { env := [(0,.ptr 0 0),(1,.int .i64 t1)],stk := [[(0,.ptr 0 0),(1,.ptr 1 0),(3,.map 3)]],H := [.cells [.ptr 1 0,.int .i64 o0_1,.int .i64 o0_2],.cells [.own 2,.map 3,.own 4,.int .i64 o1_3,.own 5,.int .i64 o1_5,.bool o1_6],.arr .str o2,.mp .i64 .str o3,.arr (.st (.pair (.int .i64) .str)) o4,.arr (.int .i64) o5],blk := 856064 }
def decPq54_n1 (s : St) : Option {x : Iq54_n1 // s = Sq54_n1 x} := match s with
  | { env := [(0,.ptr 0 0),(1,.int .i64 t1)],stk := [[(0,.ptr 0 0),(1,.ptr 1 0),(3,.map 3)]],H := [.cells [.ptr 1 0,.int .i64 o0_1,.int .i64 o0_2],.cells [.own 2,.map 3,.own 4,.int .i64 o1_3,.own 5,.int .i64 o1_5,.bool o1_6],.arr .str o2,.mp .i64 .str o3,.arr (.st (.pair (.int .i64) .str)) o4,.arr (.int .i64) o5],blk := 856064 } => some ⟨(t1,o0_1,o0_2,o1_3,o1_5,o1_6,o2,o3,o4,o5),rfl⟩
  | _ => none
def decq54_n1 (s : St) : Option Iq54_n1 := pk (decPq54_n1 s)
theorem decq54_n1_ok (s : St) (x : Iq54_n1) (h : decq54_n1 s = some x) : s = Sq54_n1 x := pk_ok (o := decPq54_n1 s) h
def outq54_n1 : Iq54_n1 → (Ex → St → Ans) → Yq54_n1 → Ans := fun (t1,o0_1,o0_2,o1_3,o1_5,o1_6,o2,o3,o4,o5) K => fun t9_y => K (Ex.norm) { env := [(0,.ptr 0 0),(1,.int .i64 t1),(9,.bool t9_y)],stk := [[(0,.ptr 0 0),(1,.ptr 1 0),(3,.map 3)]],H := [.cells [.ptr 1 0,.int .i64 o0_1,.int .i64 o0_2],.cells [.own 2,.map 3,.own 4,.int .i64 o1_3,.own 5,.int .i64 o1_5,.bool o1_6],.arr .str o2,.mp .i64 .str o3,.arr (.st (.pair (.int .i64) .str)) o4,.arr (.int .i64) o5],blk := 856064 }
def nodeq54_n1 {β : Type} : Iq54_n1 → (Yq54_n1 → Option β) → Option β := fun (t1,o0_1,o0_2,o1_3,o1_5,o1_6,o2,o3,o4,o5) exit => (bif decide (t1 < (0 : Int)) then (exit (true)) else (exit (decide (t1 ≥ o0_2))))
def nodeDq54_n1 (i : Iq54_n1) : Option Yq54_n1 := nodeq54_n1 i some
theorem nodeq54_n1_nat (i : Iq54_n1) (k : Yq54_n1 → Ans) : nodeq54_n1 i k = bindO (nodeDq54_n1 i) k := by
  obtain ⟨t1,o0_1,o0_2,o1_3,o1_5,o1_6,o2,o3,o4,o5⟩ := i
  simp only [nodeDq54_n1,nodeq54_n1,bindO_cond,bindO_assoc,bindO_none,bindO_pure,bindO_elim,bindO_unP,bindO_empty]
theorem nodeq54_n1_ok (i : Iq54_n1) (K : Ex → St → Ans) : codeI Tryz.tab envq54 noHint (codeD Tryz.tab envq54 noHint 0 64) 70 26 annLq54_n1 Lq54_n1 (weakP 6 (exk [0,1,9] [4,5] []) K) (Sq54_n1 i) = nodeq54_n1 i (outq54_n1 i K) := by kernel_rfl
theorem GNq54_n1_ok : CSum Tryz.prog 26 Lq54_n1 (sumN decq54_n1 nodeDq54_n1 outq54_n1) := csum_node mixed tabOk envq54Ok 6 (exk [0,1,9] [4,5] []) annLq54_n1_ok decq54_n1_ok nodeq54_n1_ok nodeq54_n1_nat
noncomputable def Gq54_n1 : (Ex → St → Ans) → St → Ans := (sumN decq54_n1 nodeDq54_n1 outq54_n1)
theorem Gq54_n1_ok : CSum Tryz.prog 26 Lq54_n1 Gq54_n1 := GNq54_n1_ok
noncomputable def Lq54_n0 : Code := codeAt [1,0] bq54
noncomputable def annLq54_n0 : Ann := (.block (.seq .none (.cond .none (.seq (.cut 6 [0,1] Gq54_n1) .none))))
theorem annLq54_n0_ok : AnnOk Tryz.prog 26 Lq54_n0 annLq54_n0 := ⟨(annOk_none _ _ _),⟨(annOk_none _ _ _),⟨Gq54_n1_ok,(annOk_none _ _ _)⟩⟩⟩
abbrev Iq54_n0 := (Int) × (Int) × (Int) × (Int) × (Int) × (Bool) × (List (List UInt8)) × (List (Int × List UInt8)) × (List (Int × List UInt8)) × (List Int)
abbrev Yq54_n0 := (Unit) ⊕ (Unit)
def Sq54_n0 : Iq54_n0 → St := fun (t1,o0_1,o0_2,o1_3,o1_5,o1_6,o2,o3,o4,o5) => { env := [(0,.ptr 0 0),(1,.int .i64 t1)],stk := [[(0,.ptr 0 0),(1,.ptr 1 0),(3,.map 3)]],H := [.cells [.ptr 1 0,.int .i64 o0_1,.int .i64 o0_2],.cells [.own 2,.map 3,.own 4,.int .i64 o1_3,.own 5,.int .i64 o1_5,.bool o1_6],.arr .str o2,.mp .i64 .str o3,.arr (.st (.pair (.int .i64) .str)) o4,.arr (.int .i64) o5],blk := 856064 }
def decPq54_n0 (s : St) : Option {x : Iq54_n0 // s = Sq54_n0 x} := match s with
  | { env := [(0,.ptr 0 0),(1,.int .i64 t1)],stk := [[(0,.ptr 0 0),(1,.ptr 1 0),(3,.map 3)]],H := [.cells [.ptr 1 0,.int .i64 o0_1,.int .i64 o0_2],.cells [.own 2,.map 3,.own 4,.int .i64 o1_3,.own 5,.int .i64 o1_5,.bool o1_6],.arr .str o2,.mp .i64 .str o3,.arr (.st (.pair (.int .i64) .str)) o4,.arr (.int .i64) o5],blk := 856064 } => some ⟨(t1,o0_1,o0_2,o1_3,o1_5,o1_6,o2,o3,o4,o5),rfl⟩
  | _ => none
def decq54_n0 (s : St) : Option Iq54_n0 := pk (decPq54_n0 s)
theorem decq54_n0_ok (s : St) (x : Iq54_n0) (h : decq54_n0 s = some x) : s = Sq54_n0 x := pk_ok (o := decPq54_n0 s) h
def outq54_n0 : Iq54_n0 → (Ex → St → Ans) → Yq54_n0 → Ans := fun (t1,o0_1,o0_2,o1_3,o1_5,o1_6,o2,o3,o4,o5) K => (Sum.elim (fun _ => K (Ex.ret) { env := [(4,.int .i64 (0)),(5,.int .i64 (3))],stk := [[(0,.ptr 0 0),(1,.ptr 1 0),(3,.map 3)]],H := [.cells [.ptr 1 0,.int .i64 o0_1,.int .i64 o0_2],.cells [.own 2,.map 3,.own 4,.int .i64 o1_3,.own 5,.int .i64 o1_5,.bool o1_6],.arr .str o2,.mp .i64 .str o3,.arr (.st (.pair (.int .i64) .str)) o4,.arr (.int .i64) o5],blk := 856064 }) (fun _ => K (Ex.norm) { env := [(0,.ptr 0 0),(1,.int .i64 t1)],stk := [[(0,.ptr 0 0),(1,.ptr 1 0),(3,.map 3)]],H := [.cells [.ptr 1 0,.int .i64 o0_1,.int .i64 o0_2],.cells [.own 2,.map 3,.own 4,.int .i64 o1_3,.own 5,.int .i64 o1_5,.bool o1_6],.arr .str o2,.mp .i64 .str o3,.arr (.st (.pair (.int .i64) .str)) o4,.arr (.int .i64) o5],blk := 856064 }))
def nodeq54_n0 {β : Type} : Iq54_n0 → (Yq54_n0 → Option β) → Option β := fun (t1,o0_1,o0_2,o1_3,o1_5,o1_6,o2,o3,o4,o5) exit => (bindO (nodeDq54_n1 (t1,o0_1,o0_2,o1_3,o1_5,o1_6,o2,o3,o4,o5)) fun t9 => (bif t9 then (exit (Sum.inl ())) else (exit (Sum.inr ()))))
def nodeDq54_n0 (i : Iq54_n0) : Option Yq54_n0 := nodeq54_n0 i some
theorem nodeq54_n0_nat (i : Iq54_n0) (k : Yq54_n0 → Ans) : nodeq54_n0 i k = bindO (nodeDq54_n0 i) k := by
  obtain ⟨t1,o0_1,o0_2,o1_3,o1_5,o1_6,o2,o3,o4,o5⟩ := i
  simp only [nodeDq54_n0,nodeq54_n0,bindO_cond,bindO_assoc,bindO_none,bindO_pure,bindO_elim,bindO_unP,bindO_empty]
theorem nodeq54_n0_ok (i : Iq54_n0) (K : Ex → St → Ans) : codeI Tryz.tab envq54 noHint (codeD Tryz.tab envq54 noHint 0 64) 70 26 annLq54_n0 Lq54_n0 (weakP 6 (exk [0,1] [4,5] []) K) (Sq54_n0 i) = nodeq54_n0 i (outq54_n0 i K) := by kernel_rfl
theorem GNq54_n0_ok : CSum Tryz.prog 26 Lq54_n0 (sumN decq54_n0 nodeDq54_n0 outq54_n0) := csum_node mixed tabOk envq54Ok 6 (exk [0,1] [4,5] []) annLq54_n0_ok decq54_n0_ok nodeq54_n0_ok nodeq54_n0_nat
noncomputable def Gq54_n0 : (Ex → St → Ans) → St → Ans := (sumN decq54_n0 nodeDq54_n0 outq54_n0)
theorem Gq54_n0_ok : CSum Tryz.prog 26 Lq54_n0 Gq54_n0 := GNq54_n0_ok
noncomputable def annq54 : Ann := (.seq .none (.seq (.cut 6 [0,1] Gq54_n0) .none))
theorem annq54_ok : AnnOk Tryz.prog 26 bq54 annq54 := ⟨(annOk_none _ _ _),⟨Gq54_n0_ok,(annOk_none _ _ _)⟩⟩
abbrev Aq54 := (Int) × (Int) × (Int) × (Int) × (Int) × (Bool) × (List (List UInt8)) × (List (Int × List UInt8)) × (List (Int × List UInt8)) × (List Int)
abbrev Yq54 := (Int) × (Int)
def fnq54 {β : Type} : Aq54 → (Yq54 → Option β) → Option β := fun (a1,o0_1,o0_2,o1_3,o1_5,o1_6,o2,o3,o4,o5) exit => (bindO (nodeDq54_n0 (a1,o0_1,o0_2,o1_3,o1_5,o1_6,o2,o3,o4,o5)) (Sum.elim (fun _ => (exit ((0 : Int),(3 : Int)))) (fun _ => (exit (IntKind.wrap .i64 (o0_1 + a1),(0 : Int))))))
def fnDq54 (a : Aq54) : Option Yq54 := fnq54 a some
theorem fnq54_nat (a : Aq54) (k : Yq54 → Ans) : fnq54 a k = bindO (fnDq54 a) k := by
  obtain ⟨a1,o0_1,o0_2,o1_3,o1_5,o1_6,o2,o3,o4,o5⟩ := a
  simp only [fnDq54,fnq54,bindO_cond,bindO_assoc,bindO_none,bindO_pure,bindO_elim,bindO_unP,bindO_empty]
def argsq54 : Aq54 → List AV × List AE.Obj := fun (a1,o0_1,o0_2,o1_3,o1_5,o1_6,o2,o3,o4,o5) => ([.ptr 0 0,.int .i64 a1],[.cells [.ptr 1 0,.int .i64 o0_1,.int .i64 o0_2],.cells [.own 2,.map 3,.own 4,.int .i64 o1_3,.own 5,.int .i64 o1_5,.bool o1_6],.arr .str o2,.mp .i64 .str o3,.arr (.st (.pair (.int .i64) .str)) o4,.arr (.int .i64) o5])
def decPAq54 (l : List AV) (H : List AE.Obj) : Option {a : Aq54 // (l,H) = argsq54 a} := match l,H with
  | [.ptr 0 0,.int .i64 a1],[.cells [.ptr 1 0,.int .i64 o0_1,.int .i64 o0_2],.cells [.own 2,.map 3,.own 4,.int .i64 o1_3,.own 5,.int .i64 o1_5,.bool o1_6],.arr .str o2,.mp .i64 .str o3,.arr (.st (.pair (.int .i64) .str)) o4,.arr (.int .i64) o5] => some ⟨(a1,o0_1,o0_2,o1_3,o1_5,o1_6,o2,o3,o4,o5),rfl⟩
  | _,_ => none
def decAq54 (l : List AV) (H : List AE.Obj) : Option Aq54 := pk (decPAq54 l H)
theorem decAq54_ok (l : List AV) (H : List AE.Obj) (a : Aq54) (h : decAq54 l H = some a) : (l,H) = argsq54 a := pk_ok (o := decPAq54 l H) h
def outq54 : Aq54 → (AV → List AE.Obj → Ans) → Yq54 → Ans := fun (a1,o0_1,o0_2,o1_3,o1_5,o1_6,o2,o3,o4,o5) K => unP fun r_0_y r_1_y => K (.tup [.int .i64 r_0_y,.int .i64 r_1_y]) [.cells [.ptr 1 0,.int .i64 o0_1,.int .i64 o0_2],.cells [.own 2,.map 3,.own 4,.int .i64 o1_3,.own 5,.int .i64 o1_5,.bool o1_6],.arr .str o2,.mp .i64 .str o3,.arr (.st (.pair (.int .i64) .str)) o4,.arr (.int .i64) o5]
theorem fnq54_ok (a : Aq54) (K : AV → List AE.Obj → Ans) : fnE Tryz.tab envq54 noHint 0 70 209 Tryz.f209.ntmps Tryz.f209.results.toList annq54 bq54 (argsq54 a).1 (argsq54 a).2 K = fnq54 a (outq54 a K) := by kernel_rfl
def vFq54 (a : Aq54) (K : AV → List AE.Obj → Ans) : Ans := bindO (fnDq54 a) fun y => outq54 a K y
def Fq54 : List AV → List AE.Obj → (AV → List AE.Obj → Ans) → Ans := fun l H K => bindO (decAq54 l H) fun a => vFq54 a K
theorem Fq54_ok : FuncOk Tryz.prog 209 Fq54 := func_mkD (hint := noHint) (d := 0) (n := 70) mixed tabOk envq54Ok Tryz.func209 (bodySome (by kernel_rfl)) (by decide +kernel) annq54_ok decAq54_ok fnq54_ok fnq54_nat
--@ logrec_Size
noncomputable def envq38 : Env := [(129,.func Fq15),(130,.func Fq17),(131,.func Fq18)]
theorem envq38Ok : EnvOk Tryz.prog envq38 := EnvOk.cons Fq15_ok (EnvOk.cons Fq17_ok (EnvOk.cons Fq18_ok (EnvOk.nil)))
noncomputable def bq38 : Code := Tryz.f260.body.getD .skip
noncomputable def Lq38_n0 : Code := codeAt [1,1,1,1,0,0] bq38
noncomputable def annLq38_n0 : Ann := .none
theorem annLq38_n0_ok : AnnOk Tryz.prog 38 Lq38_n0 annLq38_n0 := (annOk_none _ _ _)
abbrev Iq38_n0 := (Int) × (List UInt8) × (Int) × (Int)
abbrev Yq38_n0 := (Bool)
def Sq38_n0 : Iq38_n0 → St := fun (t1,t7,t8,t9) => { env := [(1,.int .i64 t1),(7,.str t7),(8,.int .i64 t8),(9,.int .i64 t9)],stk := [[]],H := [],blk := 1064960 }
def decPq38_n0 (s : St) : Option {x : Iq38_n0 // s = Sq38_n0 x} := match s with
  | { env := [(1,.int .i64 t1),(7,.str t7),(8,.int .i64 t8),(9,.int .i64 t9)],stk := [[]],H := [],blk := 1064960 } => some ⟨(t1,t7,t8,t9),rfl⟩
  | _ => none
def decq38_n0 (s : St) : Option Iq38_n0 := pk (decPq38_n0 s)
theorem decq38_n0_ok (s : St) (x : Iq38_n0) (h : decq38_n0 s = some x) : s = Sq38_n0 x := pk_ok (o := decPq38_n0 s) h
def outq38_n0 : Iq38_n0 → (Ex → St → Ans) → Yq38_n0 → Ans := fun (t1,t7,t8,t9) K => fun t35_y => K (Ex.norm) { env := [(9,.int .i64 t9),(35,.bool t35_y)],stk := [[]],H := [],blk := 1064960 }
def nodeq38_n0 {β : Type} : Iq38_n0 → (Yq38_n0 → Option β) → Option β := fun (t1,t7,t8,t9) exit => (bif !t7 == [(82 : UInt8)] then (exit (true)) else (bif t8 != t1 then (exit (true)) else (bif decide (t9 < (1 : Int)) then (exit (true)) else (exit (decide (t9 > (16 : Int)))))))
def nodeDq38_n0 (i : Iq38_n0) : Option Yq38_n0 := nodeq38_n0 i some
theorem nodeq38_n0_nat (i : Iq38_n0) (k : Yq38_n0 → Ans) : nodeq38_n0 i k = bindO (nodeDq38_n0 i) k := by
  obtain ⟨t1,t7,t8,t9⟩ := i
  simp only [nodeDq38_n0,nodeq38_n0,bindO_cond,bindO_assoc,bindO_none,bindO_pure,bindO_elim,bindO_unP,bindO_empty]
theorem nodeq38_n0_ok (i : Iq38_n0) (K : Ex → St → Ans) : codeI Tryz.tab envq38 noHint (codeD Tryz.tab envq38 noHint 0 64) 70 38 annLq38_n0 Lq38_n0 (weakP 0 (exk [9,35] [4,5] []) K) (Sq38_n0 i) = nodeq38_n0 i (outq38_n0 i K) := by kernel_rfl
theorem GNq38_n0_ok : CSum Tryz.prog 38 Lq38_n0 (sumN decq38_n0 nodeDq38_n0 outq38_n0) := csum_node mixed tabOk envq38Ok 0 (exk [9,35] [4,5] []) annLq38_n0_ok decq38_n0_ok nodeq38_n0_ok nodeq38_n0_nat
noncomputable def Gq38_n0 : (Ex → St → Ans) → St → Ans := (sumN decq38_n0 nodeDq38_n0 outq38_n0)
theorem Gq38_n0_ok : CSum Tryz.prog 38 Lq38_n0 Gq38_n0 := GNq38_n0_ok
noncomputable def annq38 : Ann := (.seq .none (.seq .none (.seq .none (.seq .none (.seq (.seq (.cut 0 [1,7,8,9] Gq38_n0) .none) .none)))))
theorem annq38_ok : AnnOk Tryz.prog 38 bq38 annq38 := ⟨(annOk_none _ _ _),⟨(annOk_none _ _ _),⟨(annOk_none _ _ _),⟨(annOk_none _ _ _),⟨⟨Gq38_n0_ok,(annOk_none _ _ _)⟩,(annOk_none _ _ _)⟩⟩⟩⟩⟩
abbrev Aq38 := (List UInt8) × (Int)
abbrev Yq38 := (Int) × (Int)
def fnq38 {β : Type} : Aq38 → (Yq38 → Option β) → Option β := fun (a0,a1) exit => (bif (↑(List.length a0) : Int) != (64 : Int) then (exit ((0 : Int),(12 : Int))) else (bindO (fnDq15 (a0)) fun _ => (bindO (fnDq17 ((1 : Int),a0,(0 : Int))) (unP fun r => unP fun o0_0 o0_1 => (bindO (fnDq18 ((6 : Int),o0_0,o0_1)) (unP fun r_2 => unP fun o0_0_2 o0_1_2 => (bindO (fnDq18 ((1 : Int),o0_0_2,o0_1_2)) (unP fun r_3 => unP fun o0_0_3 o0_1_3 => (bindO (nodeDq38_n0 (a1,r,r_2,r_3)) fun t35 => (bif t35 then (exit ((0 : Int),(8 : Int))) else (exit (IntKind.wrap .i64 (r_3 + (1 : Int)),(0 : Int)))))))))))))
def fnDq38 (a : Aq38) : Option Yq38 := fnq38 a some
theorem fnq38_nat (a : Aq38) (k : Yq38 → Ans) : fnq38 a k = bindO (fnDq38 a) k := by
  obtain ⟨a0,a1⟩ := a
  simp only [fnDq38,fnq38,bindO_cond,bindO_assoc,bindO_none,bindO_pure,bindO_elim,bindO_unP,bindO_empty]
def argsq38 : Aq38 → List AV := fun (a0,a1) => [.str a0,.int .i64 a1]
def decPAq38 (l : List AV) : Option {a : Aq38 // l = argsq38 a} := match l with
  | [.str a0,.int .i64 a1] => some ⟨(a0,a1),rfl⟩
  | _ => none
def decAq38 (l : List AV) : Option Aq38 := pk (decPAq38 l)
theorem decAq38_ok (l : List AV) (a : Aq38) (h : decAq38 l = some a) : l = argsq38 a := pk_ok (o := decPAq38 l) h
def rendq38 : Aq38 → Yq38 → AV := fun (a0,a1) => unP fun r_0_y r_1_y => .tup [.int .i64 r_0_y,.int .i64 r_1_y]
theorem rendq38_ok : ∀ (a : Aq38) (y : Yq38),(rendq38 a y).closed1 = true := by
  rintro ⟨a0,a1⟩ y <;> first | rfl | exact Empty.elim y
theorem fnq38_ok (a : Aq38) : fnE Tryz.tab envq38 noHint 0 70 260 Tryz.f260.ntmps Tryz.f260.results.toList annq38 bq38 (argsq38 a) [] (fun v _ => some (v,[])) = fnq38 a (fun y => some (rendq38 a y,[])) := by kernel_rfl
def vFq38 (a : Aq38) (K : AV → Ans) : Ans := bindO (fnDq38 a) fun y => K (rendq38 a y)
def Fq38 : List AV → (AV → Ans) → Ans := fun l K => bindO (decAq38 l) fun a => vFq38 a K
theorem Fq38_ok : PureOk Tryz.prog 260 Fq38 := pure_mkD (hint := noHint) (d := 0) (n := 70) mixed tabOk envq38Ok Tryz.func260 (bodySome (by kernel_rfl)) (by decide +kernel) annq38_ok decAq38_ok fnq38_ok fnq38_nat rendq38_ok
--@ logrec_tail
noncomputable def envq39 : Env := [(123,.pure Fq4)]
theorem envq39Ok : EnvOk Tryz.prog envq39 := EnvOk.cons Fq4_ok (EnvOk.nil)
noncomputable def bq39 : Code := Tryz.f165.body.getD .skip
noncomputable def annq39 : Ann := .none
theorem annq39_ok : AnnOk Tryz.prog 9 bq39 annq39 := (annOk_none _ _ _)
abbrev Aq39 := (List UInt8) × (List UInt8)
abbrev Yq39 := (List UInt8)
def fnq39 {β : Type} : Aq39 → (Yq39 → Option β) → Option β := fun (a0,a1) exit => (bif Nat.ble (List.length a0 + List.length a1) (9223372036854775807 : Nat) then (bindO (fnDq4 (a0 ++ a1)) fun r => (exit (r))) else none)
def fnDq39 (a : Aq39) : Option Yq39 := fnq39 a some
theorem fnq39_nat (a : Aq39) (k : Yq39 → Ans) : fnq39 a k = bindO (fnDq39 a) k := by
  obtain ⟨a0,a1⟩ := a
  simp only [fnDq39,fnq39,bindO_cond,bindO_assoc,bindO_none,bindO_pure,bindO_elim,bindO_unP,bindO_empty]
def argsq39 : Aq39 → List AV := fun (a0,a1) => [.str a0,.str a1]
def decPAq39 (l : List AV) : Option {a : Aq39 // l = argsq39 a} := match l with
  | [.str a0,.str a1] => some ⟨(a0,a1),rfl⟩
  | _ => none
def decAq39 (l : List AV) : Option Aq39 := pk (decPAq39 l)
theorem decAq39_ok (l : List AV) (a : Aq39) (h : decAq39 l = some a) : l = argsq39 a := pk_ok (o := decPAq39 l) h
def rendq39 : Aq39 → Yq39 → AV := fun (a0,a1) => fun r_y => .str r_y
theorem rendq39_ok : ∀ (a : Aq39) (y : Yq39),(rendq39 a y).closed1 = true := by
  rintro ⟨a0,a1⟩ y <;> first | rfl | exact Empty.elim y
theorem fnq39_ok (a : Aq39) : fnE Tryz.tab envq39 noHint 0 70 165 Tryz.f165.ntmps Tryz.f165.results.toList annq39 bq39 (argsq39 a) [] (fun v _ => some (v,[])) = fnq39 a (fun y => some (rendq39 a y,[])) := by kernel_rfl
def vFq39 (a : Aq39) (K : AV → Ans) : Ans := bindO (fnDq39 a) fun y => K (rendq39 a y)
def Fq39 : List AV → (AV → Ans) → Ans := fun l K => bindO (decAq39 l) fun a => vFq39 a K
theorem Fq39_ok : PureOk Tryz.prog 165 Fq39 := pure_mkD (hint := noHint) (d := 0) (n := 70) mixed tabOk envq39Ok Tryz.func165 (bodySome (by kernel_rfl)) (by decide +kernel) annq39_ok decAq39_ok fnq39_ok fnq39_nat rendq39_ok
--@ logrec_Check_1
noncomputable def envq35 : Env := []
theorem envq35Ok : EnvOk Tryz.prog envq35 := EnvOk.nil
noncomputable def bq35 : Code := Tryz.f208.body.getD .skip
noncomputable def annq35 : Ann := .none
theorem annq35_ok : AnnOk Tryz.prog 9 bq35 annq35 := (annOk_none _ _ _)
abbrev Aq35 := (Int) × (List UInt8) × (Int) × (List UInt8)
abbrev Yq35 := (Bool)
def fnq35 {β : Type} : Aq35 → (Yq35 → Option β) → Option β := fun (a0_0,a0_1,o0_0,o0_1) exit => (exit (a0_0 == o0_0))
def fnDq35 (a : Aq35) : Option Yq35 := fnq35 a some
theorem fnq35_nat (a : Aq35) (k : Yq35 → Ans) : fnq35 a k = bindO (fnDq35 a) k := by
  obtain ⟨a0_0,a0_1,o0_0,o0_1⟩ := a
  simp only [fnDq35,fnq35,bindO_cond,bindO_assoc,bindO_none,bindO_pure,bindO_elim,bindO_unP,bindO_empty]
def argsq35 : Aq35 → List AV × List AE.Obj := fun (a0_0,a0_1,o0_0,o0_1) => ([.agg [.int .i64 a0_0,.str a0_1],.ptr 0 0],[.cells [.int .i64 o0_0,.str o0_1]])
def decPAq35 (l : List AV) (H : List AE.Obj) : Option {a : Aq35 // (l,H) = argsq35 a} := match l,H with
  | [.agg [.int .i64 a0_0,.str a0_1],.ptr 0 0],[.cells [.int .i64 o0_0,.str o0_1]] => some ⟨(a0_0,a0_1,o0_0,o0_1),rfl⟩
  | _,_ => none
def decAq35 (l : List AV) (H : List AE.Obj) : Option Aq35 := pk (decPAq35 l H)
theorem decAq35_ok (l : List AV) (H : List AE.Obj) (a : Aq35) (h : decAq35 l H = some a) : (l,H) = argsq35 a := pk_ok (o := decPAq35 l H) h
def outq35 : Aq35 → (AV → List AE.Obj → Ans) → Yq35 → Ans := fun (a0_0,a0_1,o0_0,o0_1) K => fun r_y => K (.bool r_y) [.cells [.int .i64 o0_0,.str o0_1]]
theorem fnq35_ok (a : Aq35) (K : AV → List AE.Obj → Ans) : fnE Tryz.tab envq35 noHint 0 70 208 Tryz.f208.ntmps Tryz.f208.results.toList annq35 bq35 (argsq35 a).1 (argsq35 a).2 K = fnq35 a (outq35 a K) := by kernel_rfl
def vFq35 (a : Aq35) (K : AV → List AE.Obj → Ans) : Ans := bindO (fnDq35 a) fun y => outq35 a K y
def Fq35 : List AV → List AE.Obj → (AV → List AE.Obj → Ans) → Ans := fun l H K => bindO (decAq35 l H) fun a => vFq35 a K
theorem Fq35_ok : FuncOk Tryz.prog 208 Fq35 := func_mkD (hint := noHint) (d := 0) (n := 70) mixed tabOk envq35Ok Tryz.func208 (bodySome (by kernel_rfl)) (by decide +kernel) annq35_ok decAq35_ok fnq35_ok fnq35_nat
--@ slices_IndexFunc_api_Sector_api_Sector
noncomputable def envq72 : Env := [(208,.func Fq35)]
theorem envq72Ok : EnvOk Tryz.prog envq72 := EnvOk.cons Fq35_ok (EnvOk.nil)
noncomputable def bq72 : Code := Tryz.f237.body.getD .skip
noncomputable def Lq72_n0 : Code := codeAt [1,0,1,0,0] bq72
noncomputable def annLq72_n0 : Ann := .at 1 [0,1,7,8] (.loop .none)
theorem annLq72_n0_ok : AnnOk Tryz.prog 19 (.loop Lq72_n0) annLq72_n0 := annOk_at (annOk_none _ _ _)
abbrev Iq72_n0 := (List (Int × List UInt8)) × (Int) × (Int) × (List UInt8)
abbrev Yq72_n0 := ((Int)) ⊕ (Unit)
abbrev Vq72_n0 := (Int)
def Sq72_n0 : Iq72_n0 → Vq72_n0 → St := fun (t0,t7,o0_0,o0_1) t8 => { env := [(0,.ro (.st (.pair (.int .i64) .str)) t0),(1,.fn (Fn.func 208) [] [.ptr 0 0]),(7,.int .i64 t7),(8,.int .i64 t8)],stk := [[(0,.ptr 0 0)]],H := [.cells [.int .i64 o0_0,.str o0_1]],blk := 970752 }
def decPq72_n0 (s : St) : Option {x : Iq72_n0 × Vq72_n0 // s = Sq72_n0 x.1 x.2} := match s with
  | { env := [(0,.ro (.st (.pair (.int .i64) .str)) t0),(1,.fn (Fn.func 208) [] [.ptr 0 0]),(7,.int .i64 t7),(8,.int .i64 t8)],stk := [[(0,.ptr 0 0)]],H := [.cells [.int .i64 o0_0,.str o0_1]],blk := 970752 } => some ⟨((t0,t7,o0_0,o0_1),t8),rfl⟩
  | _ => none
def decq72_n0 (s : St) : Option (Iq72_n0 × Vq72_n0) := pk (decPq72_n0 s)
theorem decq72_n0_ok (s : St) (x : Iq72_n0 × Vq72_n0) (h : decq72_n0 s = some x) : s = Sq72_n0 x.1 x.2 := pk_ok (o := decPq72_n0 s) h
def outq72_n0 : Iq72_n0 → (Ex → St → Ans) → Yq72_n0 → Ans := fun (t0,t7,o0_0,o0_1) K => (Sum.elim (fun t4_y => K (Ex.ret) { env := [(4,.int .i64 t4_y)],stk := [[(0,.ptr 0 0)]],H := [.cells [.int .i64 o0_0,.str o0_1]],blk := 970753 }) (fun _ => K (Ex.exit 0) { env := [],stk := [[(0,.ptr 0 0)]],H := [.cells [.int .i64 o0_0,.str o0_1]],blk := 970752 }))
def stepq72_n0 {β : Type} : Iq72_n0 → Vq72_n0 → (Vq72_n0 → Option β) → (Yq72_n0 → Option β) → Option β := fun (t0,t7,o0_0,o0_1) t8 next exit => (bif decide (t8 < t7) then (bindO (nth t0 t8) fun x => (bindO (fnDq35 (x.fst,x.snd,o0_0,o0_1)) fun r => (bif r then (exit (Sum.inl (t8))) else (next (IntKind.wrap .i64 (t8 + (1 : Int))))))) else (exit (Sum.inr ())))
def stepDq72_n0 (i : Iq72_n0) (v : Vq72_n0) : Option (Vq72_n0 ⊕ Yq72_n0) := stepq72_n0 i v (fun v => some (.inl v)) (fun y => some (.inr y))
theorem stepq72_n0_nat (i : Iq72_n0) (v : Vq72_n0) (next : Vq72_n0 → Ans) (exit : Yq72_n0 → Ans) : stepq72_n0 i v next exit = bindO (stepDq72_n0 i v) (Sum.elim next exit) := by
  obtain ⟨t0,t7,o0_0,o0_1⟩ := i
  obtain z := v
  simp only [stepDq72_n0,stepq72_n0,bindO_cond,bindO_assoc,bindO_none,bindO_pure,bindO_elim,bindO_unP,bindO_empty,Sum.elim_inl,Sum.elim_inr]
theorem stepq72_n0_ok (n : Nat) (i : Iq72_n0) (v : Vq72_n0) (K : Ex → St → Ans) : codeI Tryz.tab envq72 noHint (codeD Tryz.tab envq72 noHint 0 64) (n+1) 19 annLq72_n0 (.loop Lq72_n0) (weakP 1 (exk [] [4] [(0,[])]) K) (Sq72_n0 i v) = stepq72_n0 i v (fun v' => codeI Tryz.tab envq72 noHint (codeD Tryz.tab envq72 noHint 0 64) n 19 annLq72_n0 (.loop Lq72_n0) (weakP 1 (exk [] [4] [(0,[])]) K) (Sq72_n0 i v')) (fun y => outq72_n0 i K y) := by kernel_rfl
theorem GNq72_n0_ok : CSum Tryz.prog 19 (.loop Lq72_n0) (sumL decq72_n0 stepDq72_n0 outq72_n0) := csum_loop mixed tabOk envq72Ok 1 (exk [] [4] [(0,[])]) annLq72_n0_ok decq72_n0_ok stepq72_n0_ok stepq72_n0_nat
noncomputable def Gq72_n0 : (Ex → St → Ans) → St → Ans := (sumL decq72_n0 stepDq72_n0 outq72_n0)
theorem Gq72_n0_ok : CSum Tryz.prog 19 (.loop Lq72_n0) Gq72_n0 := GNq72_n0_ok
noncomputable def annq72 : Ann := (.seq .none (.seq (.seq .none (.block (.cut 1 [0,1,7,8] Gq72_n0))) .none))
theorem annq72_ok : AnnOk Tryz.prog 19 bq72 annq72 := ⟨(annOk_none _ _ _),⟨⟨(annOk_none _ _ _),Gq72_n0_ok⟩,(annOk_none _ _ _)⟩⟩
abbrev Aq72 := (List (Int × List UInt8)) × (Int) × (List UInt8)
abbrev Yq72 := (Int)
def fnq72 {β : Type} : Aq72 → (Yq72 → Option β) → Option β := fun (a0,o0_0,o0_1) exit => (bindO (loopD (stepDq72_n0 (a0,(↑(List.length a0) : Int),o0_0,o0_1)) FUEL ((0 : Int))) (Sum.elim (fun t4 => (exit (t4))) (fun _ => (exit ((-1 : Int))))))
def fnDq72 (a : Aq72) : Option Yq72 := fnq72 a some
theorem fnq72_nat (a : Aq72) (k : Yq72 → Ans) : fnq72 a k = bindO (fnDq72 a) k := by
  obtain ⟨a0,o0_0,o0_1⟩ := a
  simp only [fnDq72,fnq72,bindO_cond,bindO_assoc,bindO_none,bindO_pure,bindO_elim,bindO_unP,bindO_empty]
def argsq72 : Aq72 → List AV × List AE.Obj := fun (a0,o0_0,o0_1) => ([.ro (.st (.pair (.int .i64) .str)) a0,.fn (Fn.func 208) [] [.ptr 0 0]],[.cells [.int .i64 o0_0,.str o0_1]])
def decPAq72 (l : List AV) (H : List AE.Obj) : Option {a : Aq72 // (l,H) = argsq72 a} := match l,H with
  | [.ro (.st (.pair (.int .i64) .str)) a0,.fn (Fn.func 208) [] [.ptr 0 0]],[.cells [.int .i64 o0_0,.str o0_1]] => some ⟨(a0,o0_0,o0_1),rfl⟩
  | _,_ => none
def decAq72 (l : List AV) (H : List AE.Obj) : Option Aq72 := pk (decPAq72 l H)
theorem decAq72_ok (l : List AV) (H : List AE.Obj) (a : Aq72) (h : decAq72 l H = some a) : (l,H) = argsq72 a := pk_ok (o := decPAq72 l H) h
def outq72 : Aq72 → (AV → List AE.Obj → Ans) → Yq72 → Ans := fun (a0,o0_0,o0_1) K => fun r_y => K (.int .i64 r_y) [.cells [.int .i64 o0_0,.str o0_1]]
theorem fnq72_ok (a : Aq72) (K : AV → List AE.Obj → Ans) : fnE Tryz.tab envq72 noHint 0 70 237 Tryz.f237.ntmps Tryz.f237.results.toList annq72 bq72 (argsq72 a).1 (argsq72 a).2 K = fnq72 a (outq72 a K) := by kernel_rfl
def vFq72 (a : Aq72) (K : AV → List AE.Obj → Ans) : Ans := bindO (fnDq72 a) fun y => outq72 a K y
def Fq72 : List AV → List AE.Obj → (AV → List AE.Obj → Ans) → Ans := fun l H K => bindO (decAq72 l H) fun a => vFq72 a K
theorem Fq72_ok : FuncOk Tryz.prog 237 Fq72 := func_mkD (hint := noHint) (d := 0) (n := 70) mixed tabOk envq72Ok Tryz.func237 (bodySome (by kernel_rfl)) (by decide +kernel) annq72_ok decAq72_ok fnq72_ok fnq72_nat
--@ slices_ContainsFunc_api_Sector_api_Sector
noncomputable def envq70 : Env := [(237,.func Fq72)]
theorem envq70Ok : EnvOk Tryz.prog envq70 := EnvOk.cons Fq72_ok (EnvOk.nil)
noncomputable def bq70 : Code := Tryz.f207.body.getD .skip
noncomputable def annq70 : Ann := .none
theorem annq70_ok : AnnOk Tryz.prog 9 bq70 annq70 := (annOk_none _ _ _)
abbrev Aq70 := (List (Int × List UInt8)) × (Int) × (List UInt8)
abbrev Yq70 := (Bool)
def fnq70 {β : Type} : Aq70 → (Yq70 → Option β) → Option β := fun (a0,o0_0,o0_1) exit => (bindO (fnDq72 (a0,o0_0,o0_1)) fun r => (exit (decide (r ≥ (0 : Int)))))
def fnDq70 (a : Aq70) : Option Yq70 := fnq70 a some
theorem fnq70_nat (a : Aq70) (k : Yq70 → Ans) : fnq70 a k = bindO (fnDq70 a) k := by
  obtain ⟨a0,o0_0,o0_1⟩ := a
  simp only [fnDq70,fnq70,bindO_cond,bindO_assoc,bindO_none,bindO_pure,bindO_elim,bindO_unP,bindO_empty]
def argsq70 : Aq70 → List AV × List AE.Obj := fun (a0,o0_0,o0_1) => ([.ro (.st (.pair (.int .i64) .str)) a0,.fn (Fn.func 208) [] [.ptr 0 0]],[.cells [.int .i64 o0_0,.str o0_1]])
def decPAq70 (l : List AV) (H : List AE.Obj) : Option {a : Aq70 // (l,H) = argsq70 a} := match l,H with
  | [.ro (.st (.pair (.int .i64) .str)) a0,.fn (Fn.func 208) [] [.ptr 0 0]],[.cells [.int .i64 o0_0,.str o0_1]] => some ⟨(a0,o0_0,o0_1),rfl⟩
  | _,_ => none
def decAq70 (l : List AV) (H : List AE.Obj) : Option Aq70 := pk (decPAq70 l H)
theorem decAq70_ok (l : List AV) (H : List AE.Obj) (a : Aq70) (h : decAq70 l H = some a) : (l,H) = argsq70 a := pk_ok (o := decPAq70 l H) h
def outq70 : Aq70 → (AV → List AE.Obj → Ans) → Yq70 → Ans := fun (a0,o0_0,o0_1) K => fun r_y => K (.bool r_y) [.cells [.int .i64 o0_0,.str o0_1]]
theorem fnq70_ok (a : Aq70) (K : AV → List AE.Obj → Ans) : fnE Tryz.tab envq70 noHint 0 70 207 Tryz.f207.ntmps Tryz.f207.results.toList annq70 bq70 (argsq70 a).1 (argsq70 a).2 K = fnq70 a (outq70 a K) := by kernel_rfl
def vFq70 (a : Aq70) (K : AV → List AE.Obj → Ans) : Ans := bindO (fnDq70 a) fun y => outq70 a K y
def Fq70 : List AV → List AE.Obj → (AV → List AE.Obj → Ans) → Ans := fun l H K => bindO (decAq70 l H) fun a => vFq70 a K
theorem Fq70_ok : FuncOk Tryz.prog 207 Fq70 := func_mkD (hint := noHint) (d := 0) (n := 70) mixed tabOk envq70Ok Tryz.func207 (bodySome (by kernel_rfl)) (by decide +kernel) annq70_ok decAq70_ok fnq70_ok fnq70_nat
--@ logrec_Check
noncomputable def envq34 : Env := [(207,.func Fq70)]
theorem envq34Ok : EnvOk Tryz.prog envq34 := EnvOk.cons Fq70_ok (EnvOk.nil)
noncomputable def bq34 : Code := Tryz.f164.body.getD .skip
noncomputable def Lq34_n2 : Code := codeAt [1,1,0,1,0,0,1,1,0,0,1,0,0] bq34
noncomputable def annLq34_n2 : Ann := .none
theorem annLq34_n2_ok : AnnOk Tryz.prog 41 Lq34_n2 annLq34_n2 := (annOk_none _ _ _)
abbrev Iq34_n2 := (List (Int × List UInt8)) × (Int) × (List (Int × List UInt8)) × (Int) × (Int) × (Int) × (List UInt8)
abbrev Yq34_n2 := (Bool)
def Sq34_n2 : Iq34_n2 → St := fun (t0,t3,t13,t14,t15,o0_0,o0_1) => { env := [(0,.ro (.st (.pair (.int .i64) .str)) t0),(3,.int .i64 t3),(4,.ptr 0 0),(13,.ro (.st (.pair (.int .i64) .str)) t13),(14,.int .i64 t14),(15,.int .i64 t15)],stk := [[]],H := [.cells [.int .i64 o0_0,.str o0_1]],blk := 671747 }
def decPq34_n2 (s : St) : Option {x : Iq34_n2 // s = Sq34_n2 x} := match s with
  | { env := [(0,.ro (.st (.pair (.int .i64) .str)) t0),(3,.int .i64 t3),(4,.ptr 0 0),(13,.ro (.st (.pair (.int .i64) .str)) t13),(14,.int .i64 t14),(15,.int .i64 t15)],stk := [[]],H := [.cells [.int .i64 o0_0,.str o0_1]],blk := 671747 } => some ⟨(t0,t3,t13,t14,t15,o0_0,o0_1),rfl⟩
  | _ => none
def decq34_n2 (s : St) : Option Iq34_n2 := pk (decPq34_n2 s)
theorem decq34_n2_ok (s : St) (x : Iq34_n2) (h : decq34_n2 s = some x) : s = Sq34_n2 x := pk_ok (o := decPq34_n2 s) h
def outq34_n2 : Iq34_n2 → (Ex → St → Ans) → Yq34_n2 → Ans := fun (t0,t3,t13,t14,t15,o0_0,o0_1) K => fun t20_y => K (Ex.norm) { env := [(0,.ro (.st (.pair (.int .i64) .str)) t0),(3,.int .i64 t3),(4,.ptr 0 0),(13,.ro (.st (.pair (.int .i64) .str)) t13),(14,.int .i64 t14),(15,.int .i64 t15),(20,.bool t20_y)],stk := [[]],H := [.cells [.int .i64 o0_0,.str o0_1]],blk := 671747 }
def nodeq34_n2 {β : Type} : Iq34_n2 → (Yq34_n2 → Option β) → Option β := fun (t0,t3,t13,t14,t15,o0_0,o0_1) exit => (bif decide (o0_0 < (0 : Int)) then (exit (true)) else (exit (decide (o0_0 ≥ (1000 : Int)))))
def nodeDq34_n2 (i : Iq34_n2) : Option Yq34_n2 := nodeq34_n2 i some
theorem nodeq34_n2_nat (i : Iq34_n2) (k : Yq34_n2 → Ans) : nodeq34_n2 i k = bindO (nodeDq34_n2 i) k := by
  obtain ⟨t0,t3,t13,t14,t15,o0_0,o0_1⟩ := i
  simp only [nodeDq34_n2,nodeq34_n2,bindO_cond,bindO_assoc,bindO_none,bindO_pure,bindO_elim,bindO_unP,bindO_empty]
theorem nodeq34_n2_ok (i : Iq34_n2) (K : Ex → St → Ans) : codeI Tryz.tab envq34 noHint (codeD Tryz.tab envq34 noHint 0 64) 70 41 annLq34_n2 Lq34_n2 (weakP 0 (exk [0,3,4,13,14,15,20] [2] []) K) (Sq34_n2 i) = nodeq34_n2 i (outq34_n2 i K) := by kernel_rfl
theorem GNq34_n2_ok : CSum Tryz.prog 41 Lq34_n2 (sumN decq34_n2 nodeDq34_n2 outq34_n2) := csum_node mixed tabOk envq34Ok 0 (exk [0,3,4,13,14,15,20] [2] []) annLq34_n2_ok decq34_n2_ok nodeq34_n2_ok nodeq34_n2_nat
noncomputable def Gq34_n2 : (Ex → St → Ans) → St → Ans := (sumN decq34_n2 nodeDq34_n2 outq34_n2)
theorem Gq34_n2_ok : CSum Tryz.prog 41 Lq34_n2 Gq34_n2 := GNq34_n2_ok
noncomputable def Lq34_n1 : Code := codeAt [1,1,0,1,0,0,1,1,0] bq34
noncomputable def annLq34_n1 : Ann := (.block (.seq .none (.block (.seq (.cut 0 [0,3,4,13,14,15] Gq34_n2) .none))))
theorem annLq34_n1_ok : AnnOk Tryz.prog 41 Lq34_n1 annLq34_n1 := ⟨(annOk_none _ _ _),⟨Gq34_n2_ok,(annOk_none _ _ _)⟩⟩
abbrev Iq34_n1 := (List (Int × List UInt8)) × (List (Int × List UInt8)) × (Int) × (Int)
abbrev Yq34_n1 := ((Int)) ⊕ (Unit)
def Sq34_n1 : Iq34_n1 → St := fun (t0,t13,t14,t15) => { env := [(0,.ro (.st (.pair (.int .i64) .str)) t0),(13,.ro (.st (.pair (.int .i64) .str)) t13),(14,.int .i64 t14),(15,.int .i64 t15)],stk := [[]],H := [],blk := 671745 }
def decPq34_n1 (s : St) : Option {x : Iq34_n1 // s = Sq34_n1 x} := match s with
  | { env := [(0,.ro (.st (.pair (.int .i64) .str)) t0),(13,.ro (.st (.pair (.int .i64) .str)) t13),(14,.int .i64 t14),(15,.int .i64 t15)],stk := [[]],H := [],blk := 671745 } => some ⟨(t0,t13,t14,t15),rfl⟩
  | _ => none
def decq34_n1 (s : St) : Option Iq34_n1 := pk (decPq34_n1 s)
theorem decq34_n1_ok (s : St) (x : Iq34_n1) (h : decq34_n1 s = some x) : s = Sq34_n1 x := pk_ok (o := decPq34_n1 s) h
def outq34_n1 : Iq34_n1 → (Ex → St → Ans) → Yq34_n1 → Ans := fun (t0,t13,t14,t15) K => (Sum.elim (fun t2_y => K (Ex.ret) { env := [(2,.int .i64 t2_y)],stk := [[]],H := [],blk := 671747 }) (fun _ => K (Ex.norm) { env := [(0,.ro (.st (.pair (.int .i64) .str)) t0),(13,.ro (.st (.pair (.int .i64) .str)) t13),(14,.int .i64 t14),(15,.int .i64 t15)],stk := [[]],H := [],blk := 671747 }))
def nodeq34_n1 {β : Type} : Iq34_n1 → (Yq34_n1 → Option β) → Option β := fun (t0,t13,t14,t15) exit => (bindO (nth t13 t15) fun x => (bindO (nodeDq34_n2 (t0,t15,t13,t14,t15,x.fst,x.snd)) fun t20 => (bif t20 then (exit (Sum.inl ((3 : Int)))) else (bif (↑(List.length x.snd) : Int) != (64 : Int) then (exit (Sum.inl ((12 : Int)))) else (bif inR t15 (List.length t0 + (1 : Nat)) then (bindO (fnDq70 (List.take (Int.toNat t15) t0,x.fst,x.snd)) fun r => (bif r then (exit (Sum.inl ((9 : Int)))) else (exit (Sum.inr ())))) else none)))))
def nodeDq34_n1 (i : Iq34_n1) : Option Yq34_n1 := nodeq34_n1 i some
theorem nodeq34_n1_nat (i : Iq34_n1) (k : Yq34_n1 → Ans) : nodeq34_n1 i k = bindO (nodeDq34_n1 i) k := by
  obtain ⟨t0,t13,t14,t15⟩ := i
  simp only [nodeDq34_n1,nodeq34_n1,bindO_cond,bindO_assoc,bindO_none,bindO_pure,bindO_elim,bindO_unP,bindO_empty]
theorem nodeq34_n1_ok (i : Iq34_n1) (K : Ex → St → Ans) : codeI Tryz.tab envq34 noHint (codeD Tryz.tab envq34 noHint 0 64) 70 41 annLq34_n1 Lq34_n1 (weakP 0 (exk [0,13,14,15] [2] []) K) (Sq34_n1 i) = nodeq34_n1 i (outq34_n1 i K) := by kernel_rfl
theorem GNq34_n1_ok : CSum Tryz.prog 41 Lq34_n1 (sumN decq34_n1 nodeDq34_n1 outq34_n1) := csum_node mixed tabOk envq34Ok 0 (exk [0,13,14,15] [2] []) annLq34_n1_ok decq34_n1_ok nodeq34_n1_ok nodeq34_n1_nat
noncomputable def Gq34_n1 : (Ex → St → Ans) → St → Ans := (sumN decq34_n1 nodeDq34_n1 outq34_n1)
theorem Gq34_n1_ok : CSum Tryz.prog 41 Lq34_n1 Gq34_n1 := GNq34_n1_ok
noncomputable def Lq34_n0 : Code := codeAt [1,1,0,1,0,0] bq34
noncomputable def annLq34_n0 : Ann := .at 0 [0,13,14,15] (.loop (.seq .none (.seq .none (.seq (.cut 0 [0,13,14,15] Gq34_n1) .none))))
theorem annLq34_n0_ok : AnnOk Tryz.prog 41 (.loop Lq34_n0) annLq34_n0 := annOk_at ⟨(annOk_none _ _ _),⟨(annOk_none _ _ _),⟨Gq34_n1_ok,(annOk_none _ _ _)⟩⟩⟩
abbrev Iq34_n0 := (List (Int × List UInt8)) × (List (Int × List UInt8)) × (Int)
abbrev Yq34_n0 := ((Int)) ⊕ (Unit)
abbrev Vq34_n0 := (Int)
def Sq34_n0 : Iq34_n0 → Vq34_n0 → St := fun (t0,t13,t14) t15 => { env := [(0,.ro (.st (.pair (.int .i64) .str)) t0),(13,.ro (.st (.pair (.int .i64) .str)) t13),(14,.int .i64 t14),(15,.int .i64 t15)],stk := [[]],H := [],blk := 671745 }
def decPq34_n0 (s : St) : Option {x : Iq34_n0 × Vq34_n0 // s = Sq34_n0 x.1 x.2} := match s with
  | { env := [(0,.ro (.st (.pair (.int .i64) .str)) t0),(13,.ro (.st (.pair (.int .i64) .str)) t13),(14,.int .i64 t14),(15,.int .i64 t15)],stk := [[]],H := [],blk := 671745 } => some ⟨((t0,t13,t14),t15),rfl⟩
  | _ => none
def decq34_n0 (s : St) : Option (Iq34_n0 × Vq34_n0) := pk (decPq34_n0 s)
theorem decq34_n0_ok (s : St) (x : Iq34_n0 × Vq34_n0) (h : decq34_n0 s = some x) : s = Sq34_n0 x.1 x.2 := pk_ok (o := decPq34_n0 s) h
def outq34_n0 : Iq34_n0 → (Ex → St → Ans) → Yq34_n0 → Ans := fun (t0,t13,t14) K => (Sum.elim (fun t2_y => K (Ex.ret) { env := [(2,.int .i64 t2_y)],stk := [[]],H := [],blk := 671747 }) (fun _ => K (Ex.exit 1) { env := [],stk := [[]],H := [],blk := 671745 }))
def stepq34_n0 {β : Type} : Iq34_n0 → Vq34_n0 → (Vq34_n0 → Option β) → (Yq34_n0 → Option β) → Option β := fun (t0,t13,t14) t15 next exit => (bif decide (t15 < t14) then (bindO (nodeDq34_n1 (t0,t13,t14,t15)) (Sum.elim (fun t2 => (exit (Sum.inl (t2)))) (fun _ => (next (IntKind.wrap .i64 (t15 + (1 : Int))))))) else (exit (Sum.inr ())))
def stepDq34_n0 (i : Iq34_n0) (v : Vq34_n0) : Option (Vq34_n0 ⊕ Yq34_n0) := stepq34_n0 i v (fun v => some (.inl v)) (fun y => some (.inr y))
theorem stepq34_n0_nat (i : Iq34_n0) (v : Vq34_n0) (next : Vq34_n0 → Ans) (exit : Yq34_n0 → Ans) : stepq34_n0 i v next exit = bindO (stepDq34_n0 i v) (Sum.elim next exit) := by
  obtain ⟨t0,t13,t14⟩ := i
  obtain z := v
  simp only [stepDq34_n0,stepq34_n0,bindO_cond,bindO_assoc,bindO_none,bindO_pure,bindO_elim,bindO_unP,bindO_empty,Sum.elim_inl,Sum.elim_inr]
theorem stepq34_n0_ok (n : Nat) (i : Iq34_n0) (v : Vq34_n0) (K : Ex → St → Ans) : codeI Tryz.tab envq34 noHint (codeD Tryz.tab envq34 noHint 0 64) (n+1) 41 annLq34_n0 (.loop Lq34_n0) (weakP 0 (exk [] [2] [(1,[])]) K) (Sq34_n0 i v) = stepq34_n0 i v (fun v' => codeI Tryz.tab envq34 noHint (codeD Tryz.tab envq34 noHint 0 64) n 41 annLq34_n0 (.loop Lq34_n0) (weakP 0 (exk [] [2] [(1,[])]) K) (Sq34_n0 i v')) (fun y => outq34_n0 i K y) := by kernel_rfl
theorem GNq34_n0_ok : CSum Tryz.prog 41 (.loop Lq34_n0) (sumL decq34_n0 stepDq34_n0 outq34_n0) := csum_loop mixed tabOk envq34Ok 0 (exk [] [2] [(1,[])]) annLq34_n0_ok decq34_n0_ok stepq34_n0_ok stepq34_n0_nat
noncomputable def Gq34_n0 : (Ex → St → Ans) → St → Ans := (sumL decq34_n0 stepDq34_n0 outq34_n0)
theorem Gq34_n0_ok : CSum Tryz.prog 41 (.loop Lq34_n0) Gq34_n0 := GNq34_n0_ok
noncomputable def annq34 : Ann := (.seq .none (.seq .none (.seq (.seq .none (.block (.cut 0 [0,13,14,15] Gq34_n0))) .none)))
theorem annq34_ok : AnnOk Tryz.prog 41 bq34 annq34 := ⟨(annOk_none _ _ _),⟨(annOk_none _ _ _),⟨⟨(annOk_none _ _ _),Gq34_n0_ok⟩,(annOk_none _ _ _)⟩⟩⟩
abbrev Aq34 := (List (Int × List UInt8))
abbrev Yq34 := (Int)
def fnq34 {β : Type} : Aq34 → (Yq34 → Option β) → Option β := fun a0 exit => (bif (↑(List.length a0) : Int) == (0 : Int) then (exit ((8 : Int))) else (bif decide ((↑(List.length a0) : Int) > (16 : Int)) then (exit ((6 : Int))) else (bindO (loopD (stepDq34_n0 (a0,a0,(↑(List.length a0) : Int))) FUEL ((0 : Int))) (Sum.elim (fun t2 => (exit (t2))) (fun _ => (exit ((0 : Int))))))))
def fnDq34 (a : Aq34) : Option Yq34 := fnq34 a some
theorem fnq34_nat (a : Aq34) (k : Yq34 → Ans) : fnq34 a k = bindO (fnDq34 a) k := by
  obtain z := a
  simp only [fnDq34,fnq34,bindO_cond,bindO_assoc,bindO_none,bindO_pure,bindO_elim,bindO_unP,bindO_empty]
def argsq34 : Aq34 → List AV := fun a0 => [.ro (.st (.pair (.int .i64) .str)) a0]
def decPAq34 (l : List AV) : Option {a : Aq34 // l = argsq34 a} := match l with
  | [.ro (.st (.pair (.int .i64) .str)) a0] => some ⟨(a0),rfl⟩
  | _ => none
def decAq34 (l : List AV) : Option Aq34 := pk (decPAq34 l)
theorem decAq34_ok (l : List AV) (a : Aq34) (h : decAq34 l = some a) : l = argsq34 a := pk_ok (o := decPAq34 l) h
def rendq34 : Aq34 → Yq34 → AV := fun a0 => fun r_y => .int .i64 r_y
theorem rendq34_ok : ∀ (a : Aq34) (y : Yq34),(rendq34 a y).closed1 = true := by
  rintro z y <;> first | rfl | exact Empty.elim y
theorem fnq34_ok (a : Aq34) : fnE Tryz.tab envq34 noHint 0 70 164 Tryz.f164.ntmps Tryz.f164.results.toList annq34 bq34 (argsq34 a) [] (fun v _ => some (v,[])) = fnq34 a (fun y => some (rendq34 a y,[])) := by kernel_rfl
def vFq34 (a : Aq34) (K : AV → Ans) : Ans := bindO (fnDq34 a) fun y => K (rendq34 a y)
def Fq34 : List AV → (AV → Ans) → Ans := fun l K => bindO (decAq34 l) fun a => vFq34 a K
theorem Fq34_ok : PureOk Tryz.prog 164 Fq34 := pure_mkD (hint := noHint) (d := 0) (n := 70) mixed tabOk envq34Ok Tryz.func164 (bodySome (by kernel_rfl)) (by decide +kernel) annq34_ok decAq34_ok fnq34_ok fnq34_nat rendq34_ok
--@ logrec_Put
noncomputable def envq37 : Env := [(119,.func (altF decABuilder_String vFBuilder_String FBuilder_StringAgain)),(121,.pure Fq16),(122,.pure Fq52),(118,.func Fq75),(165,.pure Fq39),(164,.pure Fq34)]
theorem envq37Ok : EnvOk Tryz.prog envq37 := EnvOk.cons (func_altF FBuilder_String_ok FBuilder_StringAgain_ok) (EnvOk.cons Fq16_ok (EnvOk.cons Fq52_ok (EnvOk.cons Fq75_ok (EnvOk.cons Fq39_ok (EnvOk.cons Fq34_ok (EnvOk.nil))))))
noncomputable def bq37 : Code := Tryz.f102.body.getD .skip
noncomputable def Lq37_n1 : Code := codeAt [1,1,1,1,1,0,1,0,0] bq37
noncomputable def annLq37_n1 : Ann := .at 0 [7,8,27,28,29] (.loop .none)
theorem annLq37_n1_ok : AnnOk Tryz.prog 49 (.loop Lq37_n1) annLq37_n1 := annOk_at (annOk_none _ _ _)
abbrev Iq37_n1 := (List (Int × List UInt8)) × (Int)
abbrev Yq37_n1 := (List UInt8) × (List Int)
abbrev Vq37_n1 := (List UInt8) × (Int) × (List Int)
def Sq37_n1 : Iq37_n1 → Vq37_n1 → St := fun (t27,t28) (t7,t29,o1) => { env := [(7,.str t7),(8,.ptr 0 0),(27,.ro (.st (.pair (.int .i64) .str)) t27),(28,.int .i64 t28),(29,.int .i64 t29)],stk := [[]],H := [.bcells [.own 1],.arr (.int .u8) o1],blk := 417792 }
def decPq37_n1 (s : St) : Option {x : Iq37_n1 × Vq37_n1 // s = Sq37_n1 x.1 x.2} := match s with
  | { env := [(7,.str t7),(8,.ptr 0 0),(27,.ro (.st (.pair (.int .i64) .str)) t27),(28,.int .i64 t28),(29,.int .i64 t29)],stk := [[]],H := [.bcells [.own 1],.arr (.int .u8) o1],blk := 417792 } => some ⟨((t27,t28),(t7,t29,o1)),rfl⟩
  | _ => none
def decq37_n1 (s : St) : Option (Iq37_n1 × Vq37_n1) := pk (decPq37_n1 s)
theorem decq37_n1_ok (s : St) (x : Iq37_n1 × Vq37_n1) (h : decq37_n1 s = some x) : s = Sq37_n1 x.1 x.2 := pk_ok (o := decPq37_n1 s) h
def outq37_n1 : Iq37_n1 → (Ex → St → Ans) → Yq37_n1 → Ans := fun (t27,t28) K => unP fun t7_y o1_y => K (Ex.exit 0) { env := [(7,.str t7_y),(8,.ptr 0 0)],stk := [[]],H := [.bcells [.own 1],.arr (.int .u8) o1_y],blk := 417792 }
def stepq37_n1 {β : Type} : Iq37_n1 → Vq37_n1 → (Vq37_n1 → Option β) → (Yq37_n1 → Option β) → Option β := fun (t27,t28) (t7,t29,o1) next exit => (bif decide (t29 < t28) then (bindO (nth t27 t29) fun x => (bindO (fnDq16 (t7,x.fst,(2 : Int))) fun r => (bindO (fnDq75 (x.snd,o1)) (unP fun r_0 o1_2 => (next (r,IntKind.wrap .i64 (t29 + (1 : Int)),o1_2)))))) else (exit (t7,o1)))
def stepDq37_n1 (i : Iq37_n1) (v : Vq37_n1) : Option (Vq37_n1 ⊕ Yq37_n1) := stepq37_n1 i v (fun v => some (.inl v)) (fun y => some (.inr y))
theorem stepq37_n1_nat (i : Iq37_n1) (v : Vq37_n1) (next : Vq37_n1 → Ans) (exit : Yq37_n1 → Ans) : stepq37_n1 i v next exit = bindO (stepDq37_n1 i v) (Sum.elim next exit) := by
  obtain ⟨t27,t28⟩ := i
  obtain ⟨t7,t29,o1⟩ := v
  simp only [stepDq37_n1,stepq37_n1,bindO_cond,bindO_assoc,bindO_none,bindO_pure,bindO_elim,bindO_unP,bindO_empty,Sum.elim_inl,Sum.elim_inr]
theorem stepq37_n1_ok (n : Nat) (i : Iq37_n1) (v : Vq37_n1) (K : Ex → St → Ans) : codeI Tryz.tab envq37 noHint (codeD Tryz.tab envq37 noHint 0 64) (n+1) 49 annLq37_n1 (.loop Lq37_n1) (weakP 0 (exk [7,8] [4,5] [(0,[7,8])]) K) (Sq37_n1 i v) = stepq37_n1 i v (fun v' => codeI Tryz.tab envq37 noHint (codeD Tryz.tab envq37 noHint 0 64) n 49 annLq37_n1 (.loop Lq37_n1) (weakP 0 (exk [7,8] [4,5] [(0,[7,8])]) K) (Sq37_n1 i v')) (fun y => outq37_n1 i K y) := by kernel_rfl
theorem GNq37_n1_ok : CSum Tryz.prog 49 (.loop Lq37_n1) (sumL decq37_n1 stepDq37_n1 outq37_n1) := csum_loop mixed tabOk envq37Ok 0 (exk [7,8] [4,5] [(0,[7,8])]) annLq37_n1_ok decq37_n1_ok stepq37_n1_ok stepq37_n1_nat
noncomputable def Gq37_n1 : (Ex → St → Ans) → St → Ans := (sumL decq37_n1 stepDq37_n1 outq37_n1)
theorem Gq37_n1_ok : CSum Tryz.prog 49 (.loop Lq37_n1) Gq37_n1 := GNq37_n1_ok
noncomputable def Lq37_n0 : Code := codeAt [1,0,0] bq37
noncomputable def annLq37_n0 : Ann := .none
theorem annLq37_n0_ok : AnnOk Tryz.prog 49 Lq37_n0 annLq37_n0 := (annOk_none _ _ _)
abbrev Iq37_n0 := (Int) × (List (Int × List UInt8))
abbrev Yq37_n0 := (Bool)
def Sq37_n0 : Iq37_n0 → St := fun (t0,t1) => { env := [(0,.int .i64 t0),(1,.ro (.st (.pair (.int .i64) .str)) t1)],stk := [[]],H := [],blk := 417792 }
def decPq37_n0 (s : St) : Option {x : Iq37_n0 // s = Sq37_n0 x} := match s with
  | { env := [(0,.int .i64 t0),(1,.ro (.st (.pair (.int .i64) .str)) t1)],stk := [[]],H := [],blk := 417792 } => some ⟨(t0,t1),rfl⟩
  | _ => none
def decq37_n0 (s : St) : Option Iq37_n0 := pk (decPq37_n0 s)
theorem decq37_n0_ok (s : St) (x : Iq37_n0) (h : decq37_n0 s = some x) : s = Sq37_n0 x := pk_ok (o := decPq37_n0 s) h
def outq37_n0 : Iq37_n0 → (Ex → St → Ans) → Yq37_n0 → Ans := fun (t0,t1) K => fun t16_y => K (Ex.norm) { env := [(0,.int .i64 t0),(1,.ro (.st (.pair (.int .i64) .str)) t1),(16,.bool t16_y)],stk := [[]],H := [],blk := 417792 }
def nodeq37_n0 {β : Type} : Iq37_n0 → (Yq37_n0 → Option β) → Option β := fun (t0,t1) exit => (bif decide (t0 < (0 : Int)) then (exit (true)) else (exit (decide (t0 ≥ (281474976710656 : Int)))))
def nodeDq37_n0 (i : Iq37_n0) : Option Yq37_n0 := nodeq37_n0 i some
theorem nodeq37_n0_nat (i : Iq37_n0) (k : Yq37_n0 → Ans) : nodeq37_n0 i k = bindO (nodeDq37_n0 i) k := by
  obtain ⟨t0,t1⟩ := i
  simp only [nodeDq37_n0,nodeq37_n0,bindO_cond,bindO_assoc,bindO_none,bindO_pure,bindO_elim,bindO_unP,bindO_empty]
theorem nodeq37_n0_ok (i : Iq37_n0) (K : Ex → St → Ans) : codeI Tryz.tab envq37 noHint (codeD Tryz.tab envq37 noHint 0 64) 70 49 annLq37_n0 Lq37_n0 (weakP 0 (exk [0,1,16] [4,5] []) K) (Sq37_n0 i) = nodeq37_n0 i (outq37_n0 i K) := by kernel_rfl
theorem GNq37_n0_ok : CSum Tryz.prog 49 Lq37_n0 (sumN decq37_n0 nodeDq37_n0 outq37_n0) := csum_node mixed tabOk envq37Ok 0 (exk [0,1,16] [4,5] []) annLq37_n0_ok decq37_n0_ok nodeq37_n0_ok nodeq37_n0_nat
noncomputable def Gq37_n0 : (Ex → St → Ans) → St → Ans := (sumN decq37_n0 nodeDq37_n0 outq37_n0)
theorem Gq37_n0_ok : CSum Tryz.prog 49 Lq37_n0 Gq37_n0 := GNq37_n0_ok
noncomputable def annq37 : Ann := (.seq .none (.seq (.seq (.cut 0 [0,1] Gq37_n0) .none) (.seq .none (.seq .none (.seq .none (.seq (.seq .none (.block (.cut 0 [7,8,27,28,29] Gq37_n1))) .none))))))
theorem annq37_ok : AnnOk Tryz.prog 49 bq37 annq37 := ⟨(annOk_none _ _ _),⟨⟨Gq37_n0_ok,(annOk_none _ _ _)⟩,⟨(annOk_none _ _ _),⟨(annOk_none _ _ _),⟨(annOk_none _ _ _),⟨⟨(annOk_none _ _ _),Gq37_n1_ok⟩,(annOk_none _ _ _)⟩⟩⟩⟩⟩⟩
abbrev Aq37 := (Int) × (List (Int × List UInt8))
abbrev Yq37 := (List UInt8) × (Int)
def fnq37 {β : Type} : Aq37 → (Yq37 → Option β) → Option β := fun (a0,a1) exit => (bindO (nodeDq37_n0 (a0,a1)) fun t16 => (bif t16 then (exit ([],(3 : Int))) else (bindO (fnDq34 (a1)) fun r => (bif r != (0 : Int) then (exit ([],r)) else (bindO (fnDq16 ([(82 : UInt8)],a0,(6 : Int))) fun r_2 => (bindO (fnDq16 (r_2,(↑(List.length a1) : Int),(1 : Int))) fun r_3 => (bindO (loopD (stepDq37_n1 (a1,(↑(List.length a1) : Int))) FUEL (r_3,(0 : Int),[])) (unP fun t7 o1 => (bindO (fnDBuilder_String (o1)) (unP fun r_4 o0 => (bindO (fnDq39 (t7,r_4)) fun r_5 => (bif Nat.ble (List.length t7 + List.length r_5) (9223372036854775807 : Nat) then (bindO (fnDq52 (t7 ++ r_5)) fun r_6 => (bindO (fnDBuilder_StringAgain (o0)) (unP fun r_7 o0_2 => (bif Nat.ble (List.length r_6 + List.length r_7) (9223372036854775807 : Nat) then (exit (r_6 ++ r_7,(0 : Int))) else none)))) else none))))))))))))
def fnDq37 (a : Aq37) : Option Yq37 := fnq37 a some
theorem fnq37_nat (a : Aq37) (k : Yq37 → Ans) : fnq37 a k = bindO (fnDq37 a) k := by
  obtain ⟨a0,a1⟩ := a
  simp only [fnDq37,fnq37,bindO_cond,bindO_assoc,bindO_none,bindO_pure,bindO_elim,bindO_unP,bindO_empty]
def argsq37 : Aq37 → List AV := fun (a0,a1) => [.int .i64 a0,.ro (.st (.pair (.int .i64) .str)) a1]
def decPAq37 (l : List AV) : Option {a : Aq37 // l = argsq37 a} := match l with
  | [.int .i64 a0,.ro (.st (.pair (.int .i64) .str)) a1] => some ⟨(a0,a1),rfl⟩
  | _ => none
def decAq37 (l : List AV) : Option Aq37 := pk (decPAq37 l)
theorem decAq37_ok (l : List AV) (a : Aq37) (h : decAq37 l = some a) : l = argsq37 a := pk_ok (o := decPAq37 l) h
def rendq37 : Aq37 → Yq37 → AV := fun (a0,a1) => unP fun r_0_y r_1_y => .tup [.str r_0_y,.int .i64 r_1_y]
theorem rendq37_ok : ∀ (a : Aq37) (y : Yq37),(rendq37 a y).closed1 = true := by
  rintro ⟨a0,a1⟩ y <;> first | rfl | exact Empty.elim y
theorem fnq37_ok (a : Aq37) : fnE Tryz.tab envq37 noHint 0 70 102 Tryz.f102.ntmps Tryz.f102.results.toList annq37 bq37 (argsq37 a) [] (fun v _ => some (v,[])) = fnq37 a (fun y => some (rendq37 a y,[])) := by kernel_rfl
def vFq37 (a : Aq37) (K : AV → Ans) : Ans := bindO (fnDq37 a) fun y => K (rendq37 a y)
def Fq37 : List AV → (AV → Ans) → Ans := fun l K => bindO (decAq37 l) fun a => vFq37 a K
theorem Fq37_ok : PureOk Tryz.prog 102 Fq37 := pure_mkD (hint := noHint) (d := 0) (n := 70) mixed tabOk envq37Ok Tryz.func102 (bodySome (by kernel_rfl)) (by decide +kernel) annq37_ok decAq37_ok fnq37_ok fnq37_nat rendq37_ok
--@ logrec_Get
noncomputable def envq36 : Env := [(129,.func Fq15),(130,.func Fq17),(131,.func Fq18),(165,.pure Fq39),(102,.pure Fq37)]
theorem envq36Ok : EnvOk Tryz.prog envq36 := EnvOk.cons Fq15_ok (EnvOk.cons Fq17_ok (EnvOk.cons Fq18_ok (EnvOk.cons Fq39_ok (EnvOk.cons Fq37_ok (EnvOk.nil)))))
noncomputable def bq36 : Code := Tryz.f261.body.getD .skip
noncomputable def Lq36_n4 : Code := codeAt [1,1,1,1,1,1,1,1,1,1,1,0,1,0] bq36
noncomputable def annLq36_n4 : Ann := .none
theorem annLq36_n4_ok : AnnOk Tryz.prog 106 Lq36_n4 annLq36_n4 := (annOk_none _ _ _)
abbrev Iq36_n4 := (List UInt8) × (Int) × (List UInt8) × (Int) × (List (Int × List UInt8))
abbrev Yq36_n4 := (Bool)
def Sq36_n4 : Iq36_n4 → St := fun (t0,t8,t14,t15,o0) => { env := [(0,.str t0),(8,.int .i64 t8),(10,.own 0),(14,.str t14),(15,.int .i64 t15)],stk := [[]],H := [.arr (.st (.pair (.int .i64) .str)) o0],blk := 1069058 }
def decPq36_n4 (s : St) : Option {x : Iq36_n4 // s = Sq36_n4 x} := match s with
  | { env := [(0,.str t0),(8,.int .i64 t8),(10,.own 0),(14,.str t14),(15,.int .i64 t15)],stk := [[]],H := [.arr (.st (.pair (.int .i64) .str)) o0],blk := 1069058 } => some ⟨(t0,t8,t14,t15,o0),rfl⟩
  | _ => none
def decq36_n4 (s : St) : Option Iq36_n4 := pk (decPq36_n4 s)
theorem decq36_n4_ok (s : St) (x : Iq36_n4) (h : decq36_n4 s = some x) : s = Sq36_n4 x := pk_ok (o := decPq36_n4 s) h
def outq36_n4 : Iq36_n4 → (Ex → St → Ans) → Yq36_n4 → Ans := fun (t0,t8,t14,t15,o0) K => fun t103_y => K (Ex.norm) { env := [(8,.int .i64 t8),(10,.own 0),(103,.bool t103_y)],stk := [[]],H := [.arr (.st (.pair (.int .i64) .str)) o0],blk := 1069058 }
def nodeq36_n4 {β : Type} : Iq36_n4 → (Yq36_n4 → Option β) → Option β := fun (t0,t8,t14,t15,o0) exit => (bif t15 != (0 : Int) then (exit (true)) else (exit (!t14 == t0)))
def nodeDq36_n4 (i : Iq36_n4) : Option Yq36_n4 := nodeq36_n4 i some
theorem nodeq36_n4_nat (i : Iq36_n4) (k : Yq36_n4 → Ans) : nodeq36_n4 i k = bindO (nodeDq36_n4 i) k := by
  obtain ⟨t0,t8,t14,t15,o0⟩ := i
  simp only [nodeDq36_n4,nodeq36_n4,bindO_cond,bindO_assoc,bindO_none,bindO_pure,bindO_elim,bindO_unP,bindO_empty]
theorem nodeq36_n4_ok (i : Iq36_n4) (K : Ex → St → Ans) : codeI Tryz.tab envq36 noHint (codeD Tryz.tab envq36 noHint 0 64) 70 106 annLq36_n4 Lq36_n4 (weakP 0 (exk [8,10,103] [2,3,4] []) K) (Sq36_n4 i) = nodeq36_n4 i (outq36_n4 i K) := by kernel_rfl
theorem GNq36_n4_ok : CSum Tryz.prog 106 Lq36_n4 (sumN decq36_n4 nodeDq36_n4 outq36_n4) := csum_node mixed tabOk envq36Ok 0 (exk [8,10,103] [2,3,4] []) annLq36_n4_ok decq36_n4_ok nodeq36_n4_ok nodeq36_n4_nat
noncomputable def Gq36_n4 : (Ex → St → Ans) → St → Ans := (sumN decq36_n4 nodeDq36_n4 outq36_n4)
theorem Gq36_n4_ok : CSum Tryz.prog 106 Lq36_n4 Gq36_n4 := GNq36_n4_ok
noncomputable def Lq36_n3 : Code := codeAt [1,1,1,1,1,1,1,1,1,1,0,1,0,0] bq36
noncomputable def annLq36_n3 : Ann := .at 0 [0,8,10,11,77,78] (.loop .none)
theorem annLq36_n3_ok : AnnOk Tryz.prog 106 (.loop Lq36_n3) annLq36_n3 := annOk_at (annOk_none _ _ _)
abbrev Iq36_n3 := (List UInt8) × (Int) × (List UInt8) × (Int)
abbrev Yq36_n3 := (List (Int × List UInt8))
abbrev Vq36_n3 := (Int) × (List (Int × List UInt8))
def Sq36_n3 : Iq36_n3 → Vq36_n3 → St := fun (t0,t8,t11,t77) (t78,o0) => { env := [(0,.str t0),(8,.int .i64 t8),(10,.own 0),(11,.str t11),(77,.int .i64 t77),(78,.int .i64 t78)],stk := [[]],H := [.arr (.st (.pair (.int .i64) .str)) o0],blk := 1069058 }
def decPq36_n3 (s : St) : Option {x : Iq36_n3 × Vq36_n3 // s = Sq36_n3 x.1 x.2} := match s with
  | { env := [(0,.str t0),(8,.int .i64 t8),(10,.own 0),(11,.str t11),(77,.int .i64 t77),(78,.int .i64 t78)],stk := [[]],H := [.arr (.st (.pair (.int .i64) .str)) o0],blk := 1069058 } => some ⟨((t0,t8,t11,t77),(t78,o0)),rfl⟩
  | _ => none
def decq36_n3 (s : St) : Option (Iq36_n3 × Vq36_n3) := pk (decPq36_n3 s)
theorem decq36_n3_ok (s : St) (x : Iq36_n3 × Vq36_n3) (h : decq36_n3 s = some x) : s = Sq36_n3 x.1 x.2 := pk_ok (o := decPq36_n3 s) h
def outq36_n3 : Iq36_n3 → (Ex → St → Ans) → Yq36_n3 → Ans := fun (t0,t8,t11,t77) K => fun o0_y => K (Ex.exit 2) { env := [(0,.str t0),(8,.int .i64 t8),(10,.own 0)],stk := [[]],H := [.arr (.st (.pair (.int .i64) .str)) o0_y],blk := 1069058 }
def stepq36_n3 {β : Type} : Iq36_n3 → Vq36_n3 → (Vq36_n3 → Option β) → (Yq36_n3 → Option β) → Option β := fun (t0,t8,t11,t77) (t78,o0) next exit => (bif decide (t78 < t77) then (bif inR (IntKind.wrap .i64 (t78 * (64 : Int))) (List.length t11 + (1 : Nat)) then (bif inR (64 : Int) (List.length (List.drop (Int.toNat (IntKind.wrap .i64 (t78 * (64 : Int)))) t11) + (1 : Nat)) then (bif inR t78 (List.length o0) then (bindO (o0[Int.toNat t78]?) fun x => (next (IntKind.wrap .i64 (t78 + (1 : Int)),List.set o0 (Int.toNat t78) (x.fst,List.take (64 : Nat) (List.drop (Int.toNat (IntKind.wrap .i64 (t78 * (64 : Int)))) t11))))) else none) else none) else none) else (exit (o0)))
def stepDq36_n3 (i : Iq36_n3) (v : Vq36_n3) : Option (Vq36_n3 ⊕ Yq36_n3) := stepq36_n3 i v (fun v => some (.inl v)) (fun y => some (.inr y))
theorem stepq36_n3_nat (i : Iq36_n3) (v : Vq36_n3) (next : Vq36_n3 → Ans) (exit : Yq36_n3 → Ans) : stepq36_n3 i v next exit = bindO (stepDq36_n3 i v) (Sum.elim next exit) := by
  obtain ⟨t0,t8,t11,t77⟩ := i
  obtain ⟨t78,o0⟩ := v
  simp only [stepDq36_n3,stepq36_n3,bindO_cond,bindO_assoc,bindO_none,bindO_pure,bindO_elim,bindO_unP,bindO_empty,Sum.elim_inl,Sum.elim_inr]
theorem stepq36_n3_ok (n : Nat) (i : Iq36_n3) (v : Vq36_n3) (K : Ex → St → Ans) : codeI Tryz.tab envq36 noHint (codeD Tryz.tab envq36 noHint 0 64) (n+1) 106 annLq36_n3 (.loop Lq36_n3) (weakP 0 (exk [0,8,10] [2,3,4] [(2,[0,8,10])]) K) (Sq36_n3 i v) = stepq36_n3 i v (fun v' => codeI Tryz.tab envq36 noHint (codeD Tryz.tab envq36 noHint 0 64) n 106 annLq36_n3 (.loop Lq36_n3) (weakP 0 (exk [0,8,10] [2,3,4] [(2,[0,8,10])]) K) (Sq36_n3 i v')) (fun y => outq36_n3 i K y) := by kernel_rfl
theorem GNq36_n3_ok : CSum Tryz.prog 106 (.loop Lq36_n3) (sumL decq36_n3 stepDq36_n3 outq36_n3) := csum_loop mixed tabOk envq36Ok 0 (exk [0,8,10] [2,3,4] [(2,[0,8,10])]) annLq36_n3_ok decq36_n3_ok stepq36_n3_ok stepq36_n3_nat
noncomputable def Gq36_n3 : (Ex → St → Ans) → St → Ans := (sumL decq36_n3 stepDq36_n3 outq36_n3)
theorem Gq36_n3_ok : CSum Tryz.prog 106 (.loop Lq36_n3) Gq36_n3 := GNq36_n3_ok
noncomputable def Lq36_n2 : Code := codeAt [1,1,1,1,1,1,1,0,1,0,0] bq36
noncomputable def annLq36_n2 : Ann := .at 0 [0,5,6,8,10,51,52] (.loop .none)
theorem annLq36_n2_ok : AnnOk Tryz.prog 106 (.loop Lq36_n2) annLq36_n2 := annOk_at (annOk_none _ _ _)
abbrev Iq36_n2 := (List UInt8) × (Int) × (Int) × (Int)
abbrev Yq36_n2 := (List UInt8) × (Int) × (List (Int × List UInt8))
abbrev Vq36_n2 := (Int) × (List UInt8) × (Int) × (List (Int × List UInt8))
def Sq36_n2 : Iq36_n2 → Vq36_n2 → St := fun (t0,t5,t8,t51) (t52,o0_0,o0_1,o1) => { env := [(0,.str t0),(5,.int .i64 t5),(6,.ptr 0 0),(8,.int .i64 t8),(10,.own 1),(51,.int .i64 t51),(52,.int .i64 t52)],stk := [[]],H := [.cells [.str o0_0,.int .i64 o0_1],.arr (.st (.pair (.int .i64) .str)) o1],blk := 1069056 }
def decPq36_n2 (s : St) : Option {x : Iq36_n2 × Vq36_n2 // s = Sq36_n2 x.1 x.2} := match s with
  | { env := [(0,.str t0),(5,.int .i64 t5),(6,.ptr 0 0),(8,.int .i64 t8),(10,.own 1),(51,.int .i64 t51),(52,.int .i64 t52)],stk := [[]],H := [.cells [.str o0_0,.int .i64 o0_1],.arr (.st (.pair (.int .i64) .str)) o1],blk := 1069056 } => some ⟨((t0,t5,t8,t51),(t52,o0_0,o0_1,o1)),rfl⟩
  | _ => none
def decq36_n2 (s : St) : Option (Iq36_n2 × Vq36_n2) := pk (decPq36_n2 s)
theorem decq36_n2_ok (s : St) (x : Iq36_n2 × Vq36_n2) (h : decq36_n2 s = some x) : s = Sq36_n2 x.1 x.2 := pk_ok (o := decPq36_n2 s) h
def outq36_n2 : Iq36_n2 → (Ex → St → Ans) → Yq36_n2 → Ans := fun (t0,t5,t8,t51) K => unP fun o0_0_y => unP fun o0_1_y o1_y => K (Ex.exit 0) { env := [(0,.str t0),(5,.int .i64 t5),(6,.ptr 0 0),(8,.int .i64 t8),(10,.own 1)],stk := [[]],H := [.cells [.str o0_0_y,.int .i64 o0_1_y],.arr (.st (.pair (.int .i64) .str)) o1_y],blk := 1069056 }
def stepq36_n2 {β : Type} : Iq36_n2 → Vq36_n2 → (Vq36_n2 → Option β) → (Yq36_n2 → Option β) → Option β := fun (t0,t5,t8,t51) (t52,o0_0,o0_1,o1) next exit => (bif decide (t52 < t51) then (bindO (fnDq18 ((2 : Int),o0_0,o0_1)) (unP fun r => unP fun o0_0_2 o0_1_2 => (bif Nat.ble ((List.length o1 + List.length [(r,nilL UInt8)]) * (24 : Nat)) (140737488355328 : Nat) then (next (IntKind.wrap .i64 (t52 + (1 : Int)),o0_0_2,o0_1_2,o1 ++ [(r,[])])) else none))) else (exit (o0_0,o0_1,o1)))
def stepDq36_n2 (i : Iq36_n2) (v : Vq36_n2) : Option (Vq36_n2 ⊕ Yq36_n2) := stepq36_n2 i v (fun v => some (.inl v)) (fun y => some (.inr y))
theorem stepq36_n2_nat (i : Iq36_n2) (v : Vq36_n2) (next : Vq36_n2 → Ans) (exit : Yq36_n2 → Ans) : stepq36_n2 i v next exit = bindO (stepDq36_n2 i v) (Sum.elim next exit) := by
  obtain ⟨t0,t5,t8,t51⟩ := i
  obtain ⟨t52,o0_0,o0_1,o1⟩ := v
  simp only [stepDq36_n2,stepq36_n2,bindO_cond,bindO_assoc,bindO_none,bindO_pure,bindO_elim,bindO_unP,bindO_empty,Sum.elim_inl,Sum.elim_inr]
theorem stepq36_n2_ok (n : Nat) (i : Iq36_n2) (v : Vq36_n2) (K : Ex → St → Ans) : codeI Tryz.tab envq36 noHint (codeD Tryz.tab envq36 noHint 0 64) (n+1) 106 annLq36_n2 (.loop Lq36_n2) (weakP 0 (exk [0,5,6,8,10] [2,3,4] [(0,[0,5,6,8,10])]) K) (Sq36_n2 i v) = stepq36_n2 i v (fun v' => codeI Tryz.tab envq36 noHint (codeD Tryz.tab envq36 noHint 0 64) n 106 annLq36_n2 (.loop Lq36_n2) (weakP 0 (exk [0,5,6,8,10] [2,3,4] [(0,[0,5,6,8,10])]) K) (Sq36_n2 i v')) (fun y => outq36_n2 i K y) := by kernel_rfl
theorem GNq36_n2_ok : CSum Tryz.prog 106 (.loop Lq36_n2) (sumL decq36_n2 stepDq36_n2 outq36_n2) := csum_loop mixed tabOk envq36Ok 0 (exk [0,5,6,8,10] [2,3,4] [(0,[0,5,6,8,10])]) annLq36_n2_ok decq36_n2_ok stepq36_n2_ok stepq36_n2_nat
noncomputable def Gq36_n2 : (Ex → St → Ans) → St → Ans := (sumL decq36_n2 stepDq36_n2 outq36_n2)
theorem Gq36_n2_ok : CSum Tryz.prog 106 (.loop Lq36_n2) Gq36_n2 := GNq36_n2_ok
noncomputable def Lq36_n1 : Code := codeAt [1,1,1,1,1,0,0] bq36
noncomputable def annLq36_n1 : Ann := .none
theorem annLq36_n1_ok : AnnOk Tryz.prog 106 Lq36_n1 annLq36_n1 := (annOk_none _ _ _)
abbrev Iq36_n1 := (List UInt8) × (Int) × (List UInt8) × (Int) × (Int) × (List UInt8) × (Int)
abbrev Yq36_n1 := (Bool)
def Sq36_n1 : Iq36_n1 → St := fun (t0,t5,t7,t8,t9,o0_0,o0_1) => { env := [(0,.str t0),(5,.int .i64 t5),(6,.ptr 0 0),(7,.str t7),(8,.int .i64 t8),(9,.int .i64 t9)],stk := [[]],H := [.cells [.str o0_0,.int .i64 o0_1]],blk := 1069056 }
def decPq36_n1 (s : St) : Option {x : Iq36_n1 // s = Sq36_n1 x} := match s with
  | { env := [(0,.str t0),(5,.int .i64 t5),(6,.ptr 0 0),(7,.str t7),(8,.int .i64 t8),(9,.int .i64 t9)],stk := [[]],H := [.cells [.str o0_0,.int .i64 o0_1]],blk := 1069056 } => some ⟨(t0,t5,t7,t8,t9,o0_0,o0_1),rfl⟩
  | _ => none
def decq36_n1 (s : St) : Option Iq36_n1 := pk (decPq36_n1 s)
theorem decq36_n1_ok (s : St) (x : Iq36_n1) (h : decq36_n1 s = some x) : s = Sq36_n1 x := pk_ok (o := decPq36_n1 s) h
def outq36_n1 : Iq36_n1 → (Ex → St → Ans) → Yq36_n1 → Ans := fun (t0,t5,t7,t8,t9,o0_0,o0_1) K => fun t50_y => K (Ex.norm) { env := [(0,.str t0),(5,.int .i64 t5),(6,.ptr 0 0),(8,.int .i64 t8),(50,.bool t50_y)],stk := [[]],H := [.cells [.str o0_0,.int .i64 o0_1]],blk := 1069056 }
def nodeq36_n1 {β : Type} : Iq36_n1 → (Yq36_n1 → Option β) → Option β := fun (t0,t5,t7,t8,t9,o0_0,o0_1) exit => (bif !t7 == [(82 : UInt8)] then (exit (true)) else (bif t9 != t5 then (exit (true)) else (bif decide (t5 < (1 : Int)) then (exit (true)) else (exit (decide (t5 > (16 : Int)))))))
def nodeDq36_n1 (i : Iq36_n1) : Option Yq36_n1 := nodeq36_n1 i some
theorem nodeq36_n1_nat (i : Iq36_n1) (k : Yq36_n1 → Ans) : nodeq36_n1 i k = bindO (nodeDq36_n1 i) k := by
  obtain ⟨t0,t5,t7,t8,t9,o0_0,o0_1⟩ := i
  simp only [nodeDq36_n1,nodeq36_n1,bindO_cond,bindO_assoc,bindO_none,bindO_pure,bindO_elim,bindO_unP,bindO_empty]
theorem nodeq36_n1_ok (i : Iq36_n1) (K : Ex → St → Ans) : codeI Tryz.tab envq36 noHint (codeD Tryz.tab envq36 noHint 0 64) 70 106 annLq36_n1 Lq36_n1 (weakP 0 (exk [0,5,6,8,50] [2,3,4] []) K) (Sq36_n1 i) = nodeq36_n1 i (outq36_n1 i K) := by kernel_rfl
theorem GNq36_n1_ok : CSum Tryz.prog 106 Lq36_n1 (sumN decq36_n1 nodeDq36_n1 outq36_n1) := csum_node mixed tabOk envq36Ok 0 (exk [0,5,6,8,50] [2,3,4] []) annLq36_n1_ok decq36_n1_ok nodeq36_n1_ok nodeq36_n1_nat
noncomputable def Gq36_n1 : (Ex → St → Ans) → St → Ans := (sumN decq36_n1 nodeDq36_n1 outq36_n1)
theorem Gq36_n1_ok : CSum Tryz.prog 106 Lq36_n1 Gq36_n1 := GNq36_n1_ok
noncomputable def Lq36_n0 : Code := codeAt [1,1,0,0] bq36
noncomputable def annLq36_n0 : Ann := .none
theorem annLq36_n0_ok : AnnOk Tryz.prog 106 Lq36_n0 annLq36_n0 := (annOk_none _ _ _)
abbrev Iq36_n0 := (List UInt8) × (Int)
abbrev Yq36_n0 := (Bool)
def Sq36_n0 : Iq36_n0 → St := fun (t0,t5) => { env := [(0,.str t0),(5,.int .i64 t5)],stk := [[]],H := [],blk := 1069056 }
def decPq36_n0 (s : St) : Option {x : Iq36_n0 // s = Sq36_n0 x} := match s with
  | { env := [(0,.str t0),(5,.int .i64 t5)],stk := [[]],H := [],blk := 1069056 } => some ⟨(t0,t5),rfl⟩
  | _ => none
def decq36_n0 (s : St) : Option Iq36_n0 := pk (decPq36_n0 s)
theorem decq36_n0_ok (s : St) (x : Iq36_n0) (h : decq36_n0 s = some x) : s = Sq36_n0 x := pk_ok (o := decPq36_n0 s) h
def outq36_n0 : Iq36_n0 → (Ex → St → Ans) → Yq36_n0 → Ans := fun (t0,t5) K => fun t27_y => K (Ex.norm) { env := [(0,.str t0),(5,.int .i64 t5),(27,.bool t27_y)],stk := [[]],H := [],blk := 1069056 }
def nodeq36_n0 {β : Type} : Iq36_n0 → (Yq36_n0 → Option β) → Option β := fun (t0,t5) exit => (bif decide (t5 < (0 : Int)) then (exit (true)) else (exit (Int.tmod (↑(List.length t0) : Int) (64 : Int) != (0 : Int))))
def nodeDq36_n0 (i : Iq36_n0) : Option Yq36_n0 := nodeq36_n0 i some
theorem nodeq36_n0_nat (i : Iq36_n0) (k : Yq36_n0 → Ans) : nodeq36_n0 i k = bindO (nodeDq36_n0 i) k := by
  obtain ⟨t0,t5⟩ := i
  simp only [nodeDq36_n0,nodeq36_n0,bindO_cond,bindO_assoc,bindO_none,bindO_pure,bindO_elim,bindO_unP,bindO_empty]
theorem nodeq36_n0_ok (i : Iq36_n0) (K : Ex → St → Ans) : codeI Tryz.tab envq36 noHint (codeD Tryz.tab envq36 noHint 0 64) 70 106 annLq36_n0 Lq36_n0 (weakP 0 (exk [0,5,27] [2,3,4] []) K) (Sq36_n0 i) = nodeq36_n0 i (outq36_n0 i K) := by kernel_rfl
theorem GNq36_n0_ok : CSum Tryz.prog 106 Lq36_n0 (sumN decq36_n0 nodeDq36_n0 outq36_n0) := csum_node mixed tabOk envq36Ok 0 (exk [0,5,27] [2,3,4] []) annLq36_n0_ok decq36_n0_ok nodeq36_n0_ok nodeq36_n0_nat
noncomputable def Gq36_n0 : (Ex → St → Ans) → St → Ans := (sumN decq36_n0 nodeDq36_n0 outq36_n0)
theorem Gq36_n0_ok : CSum Tryz.prog 106 Lq36_n0 Gq36_n0 := GNq36_n0_ok
noncomputable def annq36 : Ann := (.seq .none (.seq .none (.seq (.seq (.cut 0 [0,5] Gq36_n0) .none) (.seq .none (.seq .none (.seq (.seq (.cut 0 [0,5,6,7,8,9] Gq36_n1) .none) (.seq .none (.seq (.seq .none (.block (.cut 0 [0,5,6,8,10,51,52] Gq36_n2))) (.seq .none (.seq .none (.seq (.seq .none (.block (.cut 0 [0,8,10,11,77,78] Gq36_n3))) (.seq (.seq .none (.seq (.cut 0 [0,8,10,14,15] Gq36_n4) .none)) .none))))))))))))
theorem annq36_ok : AnnOk Tryz.prog 106 bq36 annq36 := ⟨(annOk_none _ _ _),⟨(annOk_none _ _ _),⟨⟨Gq36_n0_ok,(annOk_none _ _ _)⟩,⟨(annOk_none _ _ _),⟨(annOk_none _ _ _),⟨⟨Gq36_n1_ok,(annOk_none _ _ _)⟩,⟨(annOk_none _ _ _),⟨⟨(annOk_none _ _ _),Gq36_n2_ok⟩,⟨(annOk_none _ _ _),⟨(annOk_none _ _ _),⟨⟨(annOk_none _ _ _),Gq36_n3_ok⟩,⟨⟨(annOk_none _ _ _),⟨Gq36_n4_ok,(annOk_none _ _ _)⟩⟩,(annOk_none _ _ _)⟩⟩⟩⟩⟩⟩⟩⟩⟩⟩⟩⟩
abbrev Aq36 := (List UInt8)
abbrev Yq36 := (Int) × (Int) × (List (Int × List UInt8))
def fnq36 {β : Type} : Aq36 → (Yq36 → Option β) → Option β := fun a0 exit => (bindO (nodeDq36_n0 (a0,IntKind.wrap .i64 (IntKind.wrap .i64 (Int.tdiv (↑(List.length a0) : Int) (64 : Int)) - (1 : Int)))) fun t27 => (bif t27 then (exit ((0 : Int),(12 : Int),[])) else (bindO (fnDq15 (a0)) fun _ => (bindO (fnDq17 ((1 : Int),a0,(0 : Int))) (unP fun r => unP fun o0_0 o0_1 => (bindO (fnDq18 ((6 : Int),o0_0,o0_1)) (unP fun r_2 => unP fun o0_0_2 o0_1_2 => (bindO (fnDq18 ((1 : Int),o0_0_2,o0_1_2)) (unP fun r_3 => unP fun o0_0_3 o0_1_3 => (bindO (nodeDq36_n1 (a0,IntKind.wrap .i64 (IntKind.wrap .i64 (Int.tdiv (↑(List.length a0) : Int) (64 : Int)) - (1 : Int)),r,r_2,r_3,o0_0_3,o0_1_3)) fun t50 => (bif t50 then (exit ((0 : Int),(4 : Int),[])) else (bindO (loopD (stepDq36_n2 (a0,IntKind.wrap .i64 (IntKind.wrap .i64 (Int.tdiv (↑(List.length a0) : Int) (64 : Int)) - (1 : Int)),r_2,IntKind.wrap .i64 (IntKind.wrap .i64 (Int.tdiv (↑(List.length a0) : Int) (64 : Int)) - (1 : Int)))) FUEL ((0 : Int),o0_0_3,o0_1_3,[])) (unP fun o0_0_4 => unP fun o0_1_4 o1 => (bif inR (64 : Int) (List.length a0 + (1 : Nat)) then (bif inR (IntKind.wrap .i64 ((8 : Int) + IntKind.wrap .i64 ((2 : Int) * IntKind.wrap .i64 (IntKind.wrap .i64 (Int.tdiv (↑(List.length a0) : Int) (64 : Int)) - (1 : Int))))) (List.length a0 + (1 : Nat)) then (bindO (fnDq39 (List.take (Int.toNat (IntKind.wrap .i64 ((8 : Int) + IntKind.wrap .i64 ((2 : Int) * IntKind.wrap .i64 (IntKind.wrap .i64 (Int.tdiv (↑(List.length a0) : Int) (64 : Int)) - (1 : Int)))))) a0,List.drop (64 : Nat) a0)) fun r_4 => (bindO (fnDq17 ((↑(List.length r_4) : Int),o0_0_4,o0_1_4)) (unP fun r_5 => unP fun o0_0_5 o0_1_5 => (bif !r_5 == r_4 then (exit ((0 : Int),(5 : Int),[])) else (bindO (loopD (stepDq36_n3 (a0,r_2,List.drop (64 : Nat) a0,(↑(List.length o1) : Int))) FUEL ((0 : Int),o1)) fun o0 => (bindO (fnDq37 (r_2,o0)) (unP fun r_0 r_1 => (bindO (nodeDq36_n4 (a0,r_2,r_0,r_1,o0)) fun t103 => (bif t103 then (exit ((0 : Int),(4 : Int),[])) else (exit (r_2,(0 : Int),o0))))))))))) else none) else none))))))))))))))
def fnDq36 (a : Aq36) : Option Yq36 := fnq36 a some
theorem fnq36_nat (a : Aq36) (k : Yq36 → Ans) : fnq36 a k = bindO (fnDq36 a) k := by
  obtain z := a
  simp only [fnDq36,fnq36,bindO_cond,bindO_assoc,bindO_none,bindO_pure,bindO_elim,bindO_unP,bindO_empty]
def argsq36 : Aq36 → List AV × List AE.Obj := fun a0 => ([.str a0],[])
def decPAq36 (l : List AV) (H : List AE.Obj) : Option {a : Aq36 // (l,H) = argsq36 a} := match l,H with
  | [.str a0],[] => some ⟨(a0),rfl⟩
  | _,_ => none
def decAq36 (l : List AV) (H : List AE.Obj) : Option Aq36 := pk (decPAq36 l H)
theorem decAq36_ok (l : List AV) (H : List AE.Obj) (a : Aq36) (h : decAq36 l H = some a) : (l,H) = argsq36 a := pk_ok (o := decPAq36 l H) h
def outq36 : Aq36 → (AV → List AE.Obj → Ans) → Yq36 → Ans := fun a0 K => unP fun r_0_y => unP fun r_2_y o0_y => K (.tup [.int .i64 r_0_y,.own 0,.int .i64 r_2_y]) [.arr (.st (.pair (.int .i64) .str)) o0_y]
theorem fnq36_ok (a : Aq36) (K : AV → List AE.Obj → Ans) : fnE Tryz.tab envq36 noHint 0 70 261 Tryz.f261.ntmps Tryz.f261.results.toList annq36 bq36 (argsq36 a).1 (argsq36 a).2 K = fnq36 a (outq36 a K) := by kernel_rfl
def vFq36 (a : Aq36) (K : AV → List AE.Obj → Ans) : Ans := bindO (fnDq36 a) fun y => outq36 a K y
def Fq36 : List AV → List AE.Obj → (AV → List AE.Obj → Ans) → Ans := fun l H K => bindO (decAq36 l H) fun a => vFq36 a K
theorem Fq36_ok : FuncOk Tryz.prog 261 Fq36 := func_mkD (hint := noHint) (d := 0) (n := 70) mixed tabOk envq36Ok Tryz.func261 (bodySome (by kernel_rfl)) (by decide +kernel) annq36_ok decAq36_ok fnq36_ok fnq36_nat
end Go.Proofs.R7
namespace Go.Proofs.R7
open Go Go.AE
set_option maxRecDepth 100000
end Go.Proofs.R7
namespace Go.Proofs.R7
open Go Go.AE
noncomputable def base7x : Env := [(140, .pure Fq28), (68, .pure Fq22), (117, .pure Fq27), (116, .pure Fq24), (108, .func Fq74), (28, .func Fq13), (37, .pure Fq23), (161, .func Fq8), (210, .pure Fq58), (169, .func Fq51), (171, .func Fq56), (241, .pure Fq73), (218, .pure Fq71), (181, .func Fq10), (182, .func Fq12), (159, .func Fq9), (106, .func Fq57), (96, .func Fq53), (238, .pure Fq33), (211, .pure Fq30), (189, .pure Fq20), (184, .pure Fq14), (121, .pure Fq16), (220, .func Fq0), (242, .pure Fq5), (221, .func Fq2), (222, .func Fq3), (185, .pure Fq1), (123, .pure Fq4), (122, .pure Fq52), (172, .pure Fq32), (141, .func Fq11), (115, .func Fq6), (114, .func Fq7), (118, .func Fq75), (177, .func Fq55), (129, .func Fq15), (188, .func Fq19), (130, .func Fq17), (131, .func Fq18), (216, .pure Fq29), (178, .pure Fq31), (209, .func Fq54), (260, .pure Fq38), (165, .pure Fq39), (208, .func Fq35), (237, .func Fq72), (207, .func Fq70), (164, .pure Fq34), (102, .pure Fq37), (261, .func Fq36), (109, .pure Fstrings_Repeat), (119, .func FBuilder_String), (183, .func FBuilder_copyCheck), (100205, .iter (eachBeginC .str) (eachNext .str))]
theorem base7x_ok : EnvOk Tryz.prog base7x := EnvOk.cons Fq28_ok (EnvOk.cons Fq22_ok (EnvOk.cons Fq27_ok (EnvOk.cons Fq24_ok (EnvOk.cons Fq74_ok (EnvOk.cons Fq13_ok (EnvOk.cons Fq23_ok (EnvOk.cons Fq8_ok (EnvOk.cons Fq58_ok (EnvOk.cons Fq51_ok (EnvOk.cons Fq56_ok (EnvOk.cons Fq73_ok (EnvOk.cons Fq71_ok (EnvOk.cons Fq10_ok (EnvOk.cons Fq12_ok (EnvOk.cons Fq9_ok (EnvOk.cons Fq57_ok (EnvOk.cons Fq53_ok (EnvOk.cons Fq33_ok (EnvOk.cons Fq30_ok (EnvOk.cons Fq20_ok (EnvOk.cons Fq14_ok (EnvOk.cons Fq16_ok (EnvOk.cons Fq0_ok (EnvOk.cons Fq5_ok (EnvOk.cons Fq2_ok (EnvOk.cons Fq3_ok (EnvOk.cons Fq1_ok (EnvOk.cons Fq4_ok (EnvOk.cons Fq52_ok (EnvOk.cons Fq32_ok (EnvOk.cons Fq11_ok (EnvOk.cons Fq6_ok (EnvOk.cons Fq7_ok (EnvOk.cons Fq75_ok (EnvOk.cons Fq55_ok (EnvOk.cons Fq15_ok (EnvOk.cons Fq19_ok (EnvOk.cons Fq17_ok (EnvOk.cons Fq18_ok (EnvOk.cons Fq29_ok (EnvOk.cons Fq31_ok (EnvOk.cons Fq54_ok (EnvOk.cons Fq38_ok (EnvOk.cons Fq39_ok (EnvOk.cons Fq35_ok (EnvOk.cons Fq72_ok (EnvOk.cons Fq70_ok (EnvOk.cons Fq34_ok (EnvOk.cons Fq37_ok (EnvOk.cons Fq36_ok (EnvOk.cons Fstrings_Repeat_ok (EnvOk.cons FBuilder_String_ok (EnvOk.cons FBuilder_copyCheck_ok (EnvOk.cons (eachBeginC_eq ▸ iter205_spec) (EnvOk.nil)))))))))))))))))))))))))))))))))))))))))))))))))))))))
def runs7x : List RunI := [
  ⟨21, false, []⟩,
  ⟨22, false, []⟩,
  ⟨23, false, []⟩,
  ⟨24, false, []⟩,
  ⟨26, false, [(0, [0, 2, 3, 17, 104])]⟩,
  ⟨27, false, [(0, [7, 9, 26]), (2, [7, 9, 44, 45])]⟩,
  ⟨29, false, [(0, [8, 28, 29, 30])]⟩,
  ⟨30, false, []⟩,
  ⟨33, false, []⟩,
  ⟨35, false, []⟩,
  ⟨43, true, [(0, [1, 5, 31, 32, 33])]⟩,
  ⟨45, true, []⟩,
  ⟨47, true, []⟩,
  ⟨69, false, []⟩,
  ⟨70, false, []⟩,
  ⟨71, false, []⟩,
  ⟨93, false, []⟩,
  ⟨94, false, []⟩,
  ⟨95, false, [(0, [2, 3, 4, 24, 79])]⟩,
  ⟨97, false, []⟩,
  ⟨98, false, []⟩,
  ⟨99, false, [(0, [3, 4, 10, 16])]⟩,
  ⟨100, false, []⟩,
  ⟨101, false, []⟩,
  ⟨103, false, [(1, [7, 9, 10])]⟩,
  ⟨104, false, [(0, [1, 12, 23])]⟩,
  ⟨105, false, []⟩,
  ⟨107, false, []⟩,
  ⟨110, false, []⟩,
  ⟨111, false, [(0, [0, 27, 28, 29]), (2, [0, 6, 27, 28, 29, 34, 35, 36])]⟩,
  ⟨112, false, []⟩,
  ⟨113, false, []⟩,
  ⟨127, true, []⟩,
  ⟨157, false, []⟩,
  ⟨158, false, []⟩,
  ⟨160, false, []⟩,
  ⟨162, false, []⟩,
  ⟨163, false, []⟩,
  ⟨166, false, []⟩,
  ⟨167, false, []⟩,
  ⟨168, false, []⟩,
  ⟨170, false, []⟩,
  ⟨173, true, []⟩,
  ⟨179, false, []⟩,
  ⟨180, false, []⟩,
  ⟨212, true, []⟩,
  ⟨213, true, []⟩,
  ⟨217, false, [(0, [0])]⟩,
  ⟨240, false, []⟩,
  ⟨259, false, [(0, [0, 1, 8, 12, 13])]⟩]
theorem runs7x_ok : runs7x.all (RunI.ok Tryz.prog) = true := by kernel_rfl
noncomputable def lo7x : Lo := loQ Tryz.prog Tryz.tab base7x runs7x 40
theorem lo7x_ok : LoOk Tryz.prog lo7x := loQ_ok mixed tabOk base7x_ok runs7x_ok 40
end Go.Proofs.R7
namespace Go.Proofs.R7
open Go Go.AE
set_option maxRecDepth 100000
def begunH : List AE.Obj :=
  [.cells [(.own 2), (.map 3), (.own 4), (.int .i64 33), (.own 5), (.int .i64 0), (.bool false)],
  .cells [(.ptr 0 0), (.ptr 6 0), (.ptr 7 0), (.int .i64 15), (.int .i64 24), (.int .i64 2), (.int .i64 0), (.int .i64 25), (.int .i64 0), (.bool true), (.bool false), (.ptr 8 0)],
  .arr .str (List.replicate 15 (List.replicate 64 0) ++ [([76, 0, 0, 0, 0, 0, 2, 0, 0, 0, 0, 0, 25, 0, 0, 7, 97, 220, 101] ++ List.replicate 45 0), ([76, 0, 0, 0, 0, 0, 1, 0, 0, 0, 0, 0, 1, 0, 0, 10, 175, 100, 78] ++ List.replicate 45 0)] ++ List.replicate 22 (List.replicate 64 0)),
  .mp .i64 .str [],
  .arr (.st (.pair (.int .i64) .str)) [],
  .arr (.int .i64) [],
  .cells [(.ptr 0 0), (.int .i64 15), (.int .i64 2)],
  .cells [(.ptr 0 0), (.int .i64 17), (.int .i64 22)],
  .cells [(.map 9), (.map 10)],
  .mp .i64 .str [],
  .mp .i64 .str []]
def begunV : AV := (.tup [(.ptr 0 0), (.ptr 1 0)])
theorem runBegun (K : AV → List AE.Obj → Ans) : runQ Tryz.tab lo7x ⟨35, false, []⟩ Tryz.f35 [.agg [.int .i64 3, .int .i64 1, .int .i64 24]] [] K = K begunV begunH := by kernel_rfl
noncomputable def FBegun : List AV → List AE.Obj → (AV → List AE.Obj → Ans) → Ans := fun l H K => match l, H with
  | [.agg [.int .i64 a, .int .i64 b, .int .i64 c]], [] => cond (eqB a 3 && eqB b 1 && eqB c 24) (K begunV begunH) none
  | _, _ => none
theorem FBegun_ok : FuncOk Tryz.prog 35 FBegun :=
  konstHQ (i := ⟨35, false, []⟩) mixed tabOk lo7x_ok Tryz.func35 (by kernel_rfl) (by decide +kernel) (fun l H K res h => by
    unfold FBegun at h
    split at h
    · replace h := cond_none h
      simp only [Bool.and_eq_true, eqB_eq, beq_iff_eq] at h
      obtain ⟨⟨⟨rfl, rfl⟩, rfl⟩, h⟩ := h
      exact ⟨rfl, rfl, h⟩
    · cases h) runBegun
end Go.Proofs.R7
namespace Go.Proofs.R7
open Go Go.AE
noncomputable def base18 : Env := [(140, .pure Fq28), (68, .pure Fq22), (117, .pure Fq27), (116, .pure Fq24), (108, .func Fq74), (28, .func Fq13), (37, .pure Fq23), (161, .func Fq8), (210, .pure Fq58), (169, .func Fq51), (171, .func Fq56), (241, .pure Fq73), (218, .pure Fq71), (181, .func Fq10), (182, .func Fq12), (159, .func Fq9), (106, .func Fq57), (96, .func Fq53), (238, .pure Fq33), (211, .pure Fq30), (189, .pure Fq20), (184, .pure Fq14), (121, .pure Fq16), (220, .func Fq0), (242, .pure Fq5), (221, .func Fq2), (222, .func Fq3), (185, .pure Fq1), (123, .pure Fq4), (122, .pure Fq52), (172, .pure Fq32), (141, .func Fq11), (115, .func Fq6), (114, .func Fq7), (118, .func Fq75), (177, .func Fq55), (129, .func Fq15), (188, .func Fq19), (130, .func Fq17), (131, .func Fq18), (216, .pure Fq29), (178, .pure Fq31), (209, .func Fq54), (260, .pure Fq38), (165, .pure Fq39), (208, .func Fq35), (237, .func Fq72), (207, .func Fq70), (164, .pure Fq34), (102, .pure Fq37), (261, .func Fq36), (109, .pure Fstrings_Repeat), (119, .func FBuilder_String), (183, .func FBuilder_copyCheck), (100205, .iter (eachBeginC .str) (eachNext .str)), (35, .func FBegun)]
theorem base18_ok : EnvOk Tryz.prog base18 := EnvOk.cons Fq28_ok (EnvOk.cons Fq22_ok (EnvOk.cons Fq27_ok (EnvOk.cons Fq24_ok (EnvOk.cons Fq74_ok (EnvOk.cons Fq13_ok (EnvOk.cons Fq23_ok (EnvOk.cons Fq8_ok (EnvOk.cons Fq58_ok (EnvOk.cons Fq51_ok (EnvOk.cons Fq56_ok (EnvOk.cons Fq73_ok (EnvOk.cons Fq71_ok (EnvOk.cons Fq10_ok (EnvOk.cons Fq12_ok (EnvOk.cons Fq9_ok (EnvOk.cons Fq57_ok (EnvOk.cons Fq53_ok (EnvOk.cons Fq33_ok (EnvOk.cons Fq30_ok (EnvOk.cons Fq20_ok (EnvOk.cons Fq14_ok (EnvOk.cons Fq16_ok (EnvOk.cons Fq0_ok (EnvOk.cons Fq5_ok (EnvOk.cons Fq2_ok (EnvOk.cons Fq3_ok (EnvOk.cons Fq1_ok (EnvOk.cons Fq4_ok (EnvOk.cons Fq52_ok (EnvOk.cons Fq32_ok (EnvOk.cons Fq11_ok (EnvOk.cons Fq6_ok (EnvOk.cons Fq7_ok (EnvOk.cons Fq75_ok (EnvOk.cons Fq55_ok (EnvOk.cons Fq15_ok (EnvOk.cons Fq19_ok (EnvOk.cons Fq17_ok (EnvOk.cons Fq18_ok (EnvOk.cons Fq29_ok (EnvOk.cons Fq31_ok (EnvOk.cons Fq54_ok (EnvOk.cons Fq38_ok (EnvOk.cons Fq39_ok (EnvOk.cons Fq35_ok (EnvOk.cons Fq72_ok (EnvOk.cons Fq70_ok (EnvOk.cons Fq34_ok (EnvOk.cons Fq37_ok (EnvOk.cons Fq36_ok (EnvOk.cons Fstrings_Repeat_ok (EnvOk.cons FBuilder_String_ok (EnvOk.cons FBuilder_copyCheck_ok (EnvOk.cons (eachBeginC_eq ▸ iter205_spec) (EnvOk.cons FBegun_ok (EnvOk.nil))))))))))))))))))))))))))))))))))))))))))))))))))))))))
def runs18 : List RunI := [
  ⟨23, false, []⟩,
  ⟨24, false, []⟩,
  ⟨27, false, [(0, [7, 9, 26]), (2, [7, 9, 44, 45])]⟩,
  ⟨29, false, [(0, [8, 28, 29, 30])]⟩,
  ⟨30, false, []⟩,
  ⟨33, false, []⟩,
  ⟨62, false, []⟩,
  ⟨64, false, []⟩,
  ⟨65, true, []⟩,
  ⟨66, false, []⟩,
  ⟨67, false, [(0, [0, 4, 6])]⟩,
  ⟨93, false, []⟩,
  ⟨94, false, []⟩,
  ⟨95, false, [(0, [2, 3, 4, 24, 79])]⟩,
  ⟨97, false, []⟩,
  ⟨98, false, []⟩,
  ⟨99, false, [(0, [3, 4, 10, 16])]⟩,
  ⟨100, false, []⟩,
  ⟨101, false, []⟩,
  ⟨104, false, [(0, [1, 12, 23])]⟩,
  ⟨105, false, []⟩,
  ⟨107, false, []⟩,
  ⟨110, false, []⟩,
  ⟨111, false, [(0, [0, 27, 28, 29]), (2, [0, 6, 27, 28, 29, 34, 35, 36])]⟩,
  ⟨112, false, []⟩,
  ⟨113, false, []⟩,
  ⟨120, true, []⟩,
  ⟨137, false, []⟩,
  ⟨138, true, []⟩,
  ⟨139, true, [(0, [4, 8, 9])]⟩,
  ⟨157, false, []⟩,
  ⟨158, false, []⟩,
  ⟨160, false, []⟩,
  ⟨162, false, []⟩,
  ⟨163, false, []⟩,
  ⟨166, false, []⟩,
  ⟨168, false, []⟩,
  ⟨170, false, []⟩,
  ⟨173, true, []⟩,
  ⟨179, false, []⟩,
  ⟨180, false, []⟩,
  ⟨193, true, [(0, [0, 2, 4, 5, 6, 21])]⟩,
  ⟨194, true, []⟩,
  ⟨195, true, []⟩,
  ⟨212, true, []⟩,
  ⟨213, true, []⟩,
  ⟨217, false, [(0, [0])]⟩,
  ⟨223, true, []⟩,
  ⟨240, false, []⟩,
  ⟨259, false, [(0, [0, 1, 8, 12, 13])]⟩]
theorem runs18_ok : runs18.all (RunI.ok Tryz.prog) = true := by kernel_rfl
noncomputable def lo18 : Lo := loQ Tryz.prog Tryz.tab base18 runs18 40
theorem lo18_ok : LoOk Tryz.prog lo18 := loQ_ok mixed tabOk base18_ok runs18_ok 40
end Go.Proofs.R7
namespace Go.Proofs.R7
open Go Go.AE
set_option maxRecDepth 100000
def ilaw18_works : RunI := ⟨61, true, []⟩
theorem runlaw18_works (K : AV → List AE.Obj → Ans) : runQ Tryz.tab lo18 ilaw18_works Tryz.f61 [] [] K = K (.bool true) [] := by kernel_rfl
abbrev Alaw18_works := Unit
abbrev Ylaw18_works := Bool
def fnDlaw18_works (_ : Alaw18_works) : Option Ylaw18_works := some true
def decAlaw18_works (l : List AV) : Option Alaw18_works := match l with
  | [] => some ()
  | _ => none
def Flaw18_works : List AV → (AV → Ans) → Ans := fun l K => bindO (decAlaw18_works l) fun a => bindO (fnDlaw18_works a) fun y => K (.bool y)
theorem Flaw18_works_ok : PureOk Tryz.prog 61 Flaw18_works :=
  konstQP (i := ilaw18_works) mixed tabOk lo18_ok Tryz.func61 (by kernel_rfl) (by decide +kernel) (v := .bool true) rfl (fun l K res h => by
    cases l with
    | nil => exact ⟨rfl, h⟩
    | cons _ _ => cases h) runlaw18_works
end Go.Proofs.R7
namespace Go.Proofs.R7T
open Go Go.AE
open Go.Proofs.R7 (tabOk mixed Flaw18_works Flaw18_works_ok fnDlaw18_works Fstrings_Repeat_ok FBuilder_copyCheck_ok FBuilder_String_ok FBuilder_StringAgain_ok iter205_spec)
set_option maxRecDepth 100000
--@ table_Table_Get
noncomputable def envq83 : Env := []
theorem envq83Ok : EnvOk Tryz.prog envq83 := EnvOk.nil
noncomputable def bq83 : Code := Tryz.f62.body.getD .skip
noncomputable def annq83 : Ann := .none
theorem annq83_ok : AnnOk Tryz.prog 28 bq83 annq83 := (annOk_none _ _ _)
abbrev Aq83 := (Int)
abbrev Yq83 := Unit
def fnq83 {β : Type} : Aq83 → (Yq83 → Option β) → Option β := fun a1 exit => (exit ())
def fnDq83 (a : Aq83) : Option Yq83 := fnq83 a some
theorem fnq83_nat (a : Aq83) (k : Yq83 → Ans) : fnq83 a k = bindO (fnDq83 a) k := by
  obtain z := a
  simp only [fnDq83,fnq83,bindO_cond,bindO_assoc,bindO_none,bindO_pure,bindO_elim,bindO_unP,bindO_empty]
def argsq83 : Aq83 → List AV × List AE.Obj := fun a1 => ([.nilp,.int .i64 a1],[])
def decPAq83 (l : List AV) (H : List AE.Obj) : Option {a : Aq83 // (l,H) = argsq83 a} := match l,H with
  | [.nilp,.int .i64 a1],[] => some ⟨(a1),rfl⟩
  | _,_ => none
def decAq83 (l : List AV) (H : List AE.Obj) : Option Aq83 := pk (decPAq83 l H)
theorem decAq83_ok (l : List AV) (H : List AE.Obj) (a : Aq83) (h : decAq83 l H = some a) : (l,H) = argsq83 a := pk_ok (o := decPAq83 l H) h
def outq83 : Aq83 → (AV → List AE.Obj → Ans) → Yq83 → Ans := fun a1 K => fun _ => K (.tup [.agg [.int .i64 (0),.int .i64 (0),.int .i64 (0)],.int .i64 (10)]) []
theorem fnq83_ok (a : Aq83) (K : AV → List AE.Obj → Ans) : fnE Tryz.tab envq83 noHint 0 70 62 Tryz.f62.ntmps Tryz.f62.results.toList annq83 bq83 (argsq83 a).1 (argsq83 a).2 K = fnq83 a (outq83 a K) := by kernel_rfl
def vFq83 (a : Aq83) (K : AV → List AE.Obj → Ans) : Ans := bindO (fnDq83 a) fun y => outq83 a K y
def Fq83 : List AV → List AE.Obj → (AV → List AE.Obj → Ans) → Ans := fun l H K => bindO (decAq83 l H) fun a => vFq83 a K
theorem Fq83_ok : FuncOk Tryz.prog 62 Fq83 := func_mkD (hint := noHint) (d := 0) (n := 70) mixed tabOk envq83Ok Tryz.func62 (bodySome (by kernel_rfl)) (by decide +kernel) annq83_ok decAq83_ok fnq83_ok fnq83_nat
--@ table_Table_All
noncomputable def envq81 : Env := []
theorem envq81Ok : EnvOk Tryz.prog envq81 := EnvOk.nil
noncomputable def bq81 : Code := Tryz.f63.body.getD .skip
noncomputable def annq81 : Ann := .none
theorem annq81_ok : AnnOk Tryz.prog 42 bq81 annq81 := (annOk_none _ _ _)
abbrev Aq81 := Unit
abbrev Yq81 := Unit
def fnq81 {β : Type} : Aq81 → (Yq81 → Option β) → Option β := fun _ exit => (exit ())
def fnDq81 (a : Aq81) : Option Yq81 := fnq81 a some
theorem fnq81_nat (a : Aq81) (k : Yq81 → Ans) : fnq81 a k = bindO (fnDq81 a) k := by
  obtain z := a
  simp only [fnDq81,fnq81,bindO_cond,bindO_assoc,bindO_none,bindO_pure,bindO_elim,bindO_unP,bindO_empty]
def argsq81 : Aq81 → List AV × List AE.Obj := fun _ => ([.nilp],[])
def decPAq81 (l : List AV) (H : List AE.Obj) : Option {a : Aq81 // (l,H) = argsq81 a} := match l,H with
  | [.nilp],[] => some ⟨(),rfl⟩
  | _,_ => none
def decAq81 (l : List AV) (H : List AE.Obj) : Option Aq81 := pk (decPAq81 l H)
theorem decAq81_ok (l : List AV) (H : List AE.Obj) (a : Aq81) (h : decAq81 l H = some a) : (l,H) = argsq81 a := pk_ok (o := decPAq81 l H) h
def outq81 : Aq81 → (AV → List AE.Obj → Ans) → Yq81 → Ans := fun _ K => fun _ => K (.tup [.own 0,.int .i64 (10)]) [.arr (.st (.pair (.pair (.int .i64) (.int .i64)) (.int .i64))) ([])]
theorem fnq81_ok (a : Aq81) (K : AV → List AE.Obj → Ans) : fnE Tryz.tab envq81 noHint 0 70 63 Tryz.f63.ntmps Tryz.f63.results.toList annq81 bq81 (argsq81 a).1 (argsq81 a).2 K = fnq81 a (outq81 a K) := by kernel_rfl
def vFq81 (a : Aq81) (K : AV → List AE.Obj → Ans) : Ans := bindO (fnDq81 a) fun y => outq81 a K y
def Fq81 : List AV → List AE.Obj → (AV → List AE.Obj → Ans) → Ans := fun l H K => bindO (decAq81 l H) fun a => vFq81 a K
theorem Fq81_ok : FuncOk Tryz.prog 63 Fq81 := func_mkD (hint := noHint) (d := 0) (n := 70) mixed tabOk envq81Ok Tryz.func63 (bodySome (by kernel_rfl)) (by decide +kernel) annq81_ok decAq81_ok fnq81_ok fnq81_nat
--@ table_New
noncomputable def envq80 : Env := []
theorem envq80Ok : EnvOk Tryz.prog envq80 := EnvOk.nil
noncomputable def bq80 : Code := Tryz.f64.body.getD .skip
noncomputable def annq80 : Ann := .none
theorem annq80_ok : AnnOk Tryz.prog 9 bq80 annq80 := (annOk_none _ _ _)
abbrev Aq80 := (Int) × (Int) × (Int)
abbrev Yq80 := Unit
def fnq80 {β : Type} : Aq80 → (Yq80 → Option β) → Option β := fun (a1_0,a1_1,a1_2) exit => (exit ())
def fnDq80 (a : Aq80) : Option Yq80 := fnq80 a some
theorem fnq80_nat (a : Aq80) (k : Yq80 → Ans) : fnq80 a k = bindO (fnDq80 a) k := by
  obtain ⟨a1_0,a1_1,a1_2⟩ := a
  simp only [fnDq80,fnq80,bindO_cond,bindO_assoc,bindO_none,bindO_pure,bindO_elim,bindO_unP,bindO_empty]
def argsq80 : Aq80 → List AV × List AE.Obj := fun (a1_0,a1_1,a1_2) => ([.nilp,.agg [.int .i64 a1_0,.int .i64 a1_1,.int .i64 a1_2]],[])
def decPAq80 (l : List AV) (H : List AE.Obj) : Option {a : Aq80 // (l,H) = argsq80 a} := match l,H with
  | [.nilp,.agg [.int .i64 a1_0,.int .i64 a1_1,.int .i64 a1_2]],[] => some ⟨(a1_0,a1_1,a1_2),rfl⟩
  | _,_ => none
def decAq80 (l : List AV) (H : List AE.Obj) : Option Aq80 := pk (decPAq80 l H)
theorem decAq80_ok (l : List AV) (H : List AE.Obj) (a : Aq80) (h : decAq80 l H = some a) : (l,H) = argsq80 a := pk_ok (o := decPAq80 l H) h
def outq80 : Aq80 → (AV → List AE.Obj → Ans) → Yq80 → Ans := fun (a1_0,a1_1,a1_2) K => fun _ => K (.ptr 0 0) [.cells [.nilp,.int .i64 a1_0,.int .i64 a1_1,.int .i64 a1_2]]
theorem fnq80_ok (a : Aq80) (K : AV → List AE.Obj → Ans) : fnE Tryz.tab envq80 noHint 0 70 64 Tryz.f64.ntmps Tryz.f64.results.toList annq80 bq80 (argsq80 a).1 (argsq80 a).2 K = fnq80 a (outq80 a K) := by kernel_rfl
def vFq80 (a : Aq80) (K : AV → List AE.Obj → Ans) : Ans := bindO (fnDq80 a) fun y => outq80 a K y
def Fq80 : List AV → List AE.Obj → (AV → List AE.Obj → Ans) → Ans := fun l H K => bindO (decAq80 l H) fun a => vFq80 a K
theorem Fq80_ok : FuncOk Tryz.prog 64 Fq80 := func_mkD (hint := noHint) (d := 0) (n := 70) mixed tabOk envq80Ok Tryz.func64 (bodySome (by kernel_rfl)) (by decide +kernel) annq80_ok decAq80_ok fnq80_ok fnq80_nat
--@ layout_within
noncomputable def envq28 : Env := []
theorem envq28Ok : EnvOk Tryz.prog envq28 := EnvOk.nil
noncomputable def bq28 : Code := Tryz.f140.body.getD .skip
noncomputable def Lq28_n0 : Code := codeAt [1,0] bq28
noncomputable def annLq28_n0 : Ann := .none
theorem annLq28_n0_ok : AnnOk Tryz.prog 15 Lq28_n0 annLq28_n0 := (annOk_none _ _ _)
abbrev Iq28_n0 := (Int) × (Int) × (Int)
abbrev Yq28_n0 := (Bool)
def Sq28_n0 : Iq28_n0 → St := fun (t0,t1,t2) => { env := [(0,.int .i64 t0),(1,.int .i64 t1),(2,.int .i64 t2)],stk := [[]],H := [],blk := 573440 }
def decPq28_n0 (s : St) : Option {x : Iq28_n0 // s = Sq28_n0 x} := match s with
  | { env := [(0,.int .i64 t0),(1,.int .i64 t1),(2,.int .i64 t2)],stk := [[]],H := [],blk := 573440 } => some ⟨(t0,t1,t2),rfl⟩
  | _ => none
def decq28_n0 (s : St) : Option Iq28_n0 := pk (decPq28_n0 s)
theorem decq28_n0_ok (s : St) (x : Iq28_n0) (h : decq28_n0 s = some x) : s = Sq28_n0 x := pk_ok (o := decPq28_n0 s) h
def outq28_n0 : Iq28_n0 → (Ex → St → Ans) → Yq28_n0 → Ans := fun (t0,t1,t2) K => fun t6_y => K (Ex.norm) { env := [(6,.bool t6_y)],stk := [[]],H := [],blk := 573440 }
def nodeq28_n0 {β : Type} : Iq28_n0 → (Yq28_n0 → Option β) → Option β := fun (t0,t1,t2) exit => (bif decide (t0 ≥ t1) then (exit (decide (t0 ≤ t2))) else (exit (false)))
def nodeDq28_n0 (i : Iq28_n0) : Option Yq28_n0 := nodeq28_n0 i some
theorem nodeq28_n0_nat (i : Iq28_n0) (k : Yq28_n0 → Ans) : nodeq28_n0 i k = bindO (nodeDq28_n0 i) k := by
  obtain ⟨t0,t1,t2⟩ := i
  simp only [nodeDq28_n0,nodeq28_n0,bindO_cond,bindO_assoc,bindO_none,bindO_pure,bindO_elim,bindO_unP,bindO_empty]
theorem nodeq28_n0_ok (i : Iq28_n0) (K : Ex → St → Ans) : codeI Tryz.tab envq28 noHint (codeD Tryz.tab envq28 noHint 0 64) 70 15 annLq28_n0 Lq28_n0 (weakP 0 (exk [6] [6] []) K) (Sq28_n0 i) = nodeq28_n0 i (outq28_n0 i K) := by kernel_rfl
theorem GNq28_n0_ok : CSum Tryz.prog 15 Lq28_n0 (sumN decq28_n0 nodeDq28_n0 outq28_n0) := csum_node mixed tabOk envq28Ok 0 (exk [6] [6] []) annLq28_n0_ok decq28_n0_ok nodeq28_n0_ok nodeq28_n0_nat
noncomputable def Gq28_n0 : (Ex → St → Ans) → St → Ans := (sumN decq28_n0 nodeDq28_n0 outq28_n0)
theorem Gq28_n0_ok : CSum Tryz.prog 15 Lq28_n0 Gq28_n0 := GNq28_n0_ok
noncomputable def annq28 : Ann := (.seq .none (.seq (.cut 0 [0,1,2] Gq28_n0) .none))
theorem annq28_ok : AnnOk Tryz.prog 15 bq28 annq28 := ⟨(annOk_none _ _ _),⟨Gq28_n0_ok,(annOk_none _ _ _)⟩⟩
abbrev Aq28 := (Int) × (Int) × (Int)
abbrev Yq28 := (Bool)
def fnq28 {β : Type} : Aq28 → (Yq28 → Option β) → Option β := fun (a0,a1,a2) exit => (bindO (nodeDq28_n0 (a0,a1,a2)) fun t6 => (exit (t6)))
def fnDq28 (a : Aq28) : Option Yq28 := fnq28 a some
theorem fnq28_nat (a : Aq28) (k : Yq28 → Ans) : fnq28 a k = bindO (fnDq28 a) k := by
  obtain ⟨a0,a1,a2⟩ := a
  simp only [fnDq28,fnq28,bindO_cond,bindO_assoc,bindO_none,bindO_pure,bindO_elim,bindO_unP,bindO_empty]
def argsq28 : Aq28 → List AV := fun (a0,a1,a2) => [.int .i64 a0,.int .i64 a1,.int .i64 a2]
def decPAq28 (l : List AV) : Option {a : Aq28 // l = argsq28 a} := match l with
  | [.int .i64 a0,.int .i64 a1,.int .i64 a2] => some ⟨(a0,a1,a2),rfl⟩
  | _ => none
def decAq28 (l : List AV) : Option Aq28 := pk (decPAq28 l)
theorem decAq28_ok (l : List AV) (a : Aq28) (h : decAq28 l = some a) : l = argsq28 a := pk_ok (o := decPAq28 l) h
def rendq28 : Aq28 → Yq28 → AV := fun (a0,a1,a2) => fun r_y => .bool r_y
theorem rendq28_ok : ∀ (a : Aq28) (y : Yq28),(rendq28 a y).closed1 = true := by
  rintro ⟨a0,a1,a2⟩ y <;> first | rfl | exact Empty.elim y
theorem fnq28_ok (a : Aq28) : fnE Tryz.tab envq28 noHint 0 70 140 Tryz.f140.ntmps Tryz.f140.results.toList annq28 bq28 (argsq28 a) [] (fun v _ => some (v,[])) = fnq28 a (fun y => some (rendq28 a y,[])) := by kernel_rfl
def vFq28 (a : Aq28) (K : AV → Ans) : Ans := bindO (fnDq28 a) fun y => K (rendq28 a y)
def Fq28 : List AV → (AV → Ans) → Ans := fun l K => bindO (decAq28 l) fun a => vFq28 a K
theorem Fq28_ok : PureOk Tryz.prog 140 Fq28 := pure_mkD (hint := noHint) (d := 0) (n := 70) mixed tabOk envq28Ok Tryz.func140 (bodySome (by kernel_rfl)) (by decide +kernel) annq28_ok decAq28_ok fnq28_ok fnq28_nat rendq28_ok
--@ layout_Check
noncomputable def envq22 : Env := [(140,.pure Fq28)]
theorem envq22Ok : EnvOk Tryz.prog envq22 := EnvOk.cons Fq28_ok (EnvOk.nil)
noncomputable def bq22 : Code := Tryz.f68.body.getD .skip
noncomputable def Lq22_n0 : Code := codeAt [1,0,0] bq22
noncomputable def annLq22_n0 : Ann := .none
theorem annLq22_n0_ok : AnnOk Tryz.prog 19 Lq22_n0 annLq22_n0 := (annOk_none _ _ _)
abbrev Iq22_n0 := (Int) × (Int) × (Int)
abbrev Yq22_n0 := (Bool)
def Sq22_n0 : Iq22_n0 → St := fun (o0_0,o0_1,o0_2) => { env := [(1,.ptr 0 0)],stk := [[]],H := [.cells [.int .i64 o0_0,.int .i64 o0_1,.int .i64 o0_2]],blk := 278528 }
def decPq22_n0 (s : St) : Option {x : Iq22_n0 // s = Sq22_n0 x} := match s with
  | { env := [(1,.ptr 0 0)],stk := [[]],H := [.cells [.int .i64 o0_0,.int .i64 o0_1,.int .i64 o0_2]],blk := 278528 } => some ⟨(o0_0,o0_1,o0_2),rfl⟩
  | _ => none
def decq22_n0 (s : St) : Option Iq22_n0 := pk (decPq22_n0 s)
theorem decq22_n0_ok (s : St) (x : Iq22_n0) (h : decq22_n0 s = some x) : s = Sq22_n0 x := pk_ok (o := decPq22_n0 s) h
def outq22_n0 : Iq22_n0 → (Ex → St → Ans) → Yq22_n0 → Ans := fun (o0_0,o0_1,o0_2) K => fun t18_y => K (Ex.norm) { env := [(18,.bool t18_y)],stk := [[]],H := [],blk := 278528 }
def nodeq22_n0 {β : Type} : Iq22_n0 → (Yq22_n0 → Option β) → Option β := fun (o0_0,o0_1,o0_2) exit => (bindO (fnDq28 (o0_0,(1 : Int),(24 : Int))) fun r => (bif !r then (exit (true)) else (bindO (fnDq28 (o0_1,(1 : Int),(8 : Int))) fun r_2 => (bif !r_2 then (exit (true)) else (bindO (fnDq28 (o0_2,(24 : Int),(200 : Int))) fun r_3 => (exit (!r_3)))))))
def nodeDq22_n0 (i : Iq22_n0) : Option Yq22_n0 := nodeq22_n0 i some
theorem nodeq22_n0_nat (i : Iq22_n0) (k : Yq22_n0 → Ans) : nodeq22_n0 i k = bindO (nodeDq22_n0 i) k := by
  obtain ⟨o0_0,o0_1,o0_2⟩ := i
  simp only [nodeDq22_n0,nodeq22_n0,bindO_cond,bindO_assoc,bindO_none,bindO_pure,bindO_elim,bindO_unP,bindO_empty]
theorem nodeq22_n0_ok (i : Iq22_n0) (K : Ex → St → Ans) : codeI Tryz.tab envq22 noHint (codeD Tryz.tab envq22 noHint 0 64) 70 19 annLq22_n0 Lq22_n0 (weakP 0 (exk [18] [2] []) K) (Sq22_n0 i) = nodeq22_n0 i (outq22_n0 i K) := by kernel_rfl
theorem GNq22_n0_ok : CSum Tryz.prog 19 Lq22_n0 (sumN decq22_n0 nodeDq22_n0 outq22_n0) := csum_node mixed tabOk envq22Ok 0 (exk [18] [2] []) annLq22_n0_ok decq22_n0_ok nodeq22_n0_ok nodeq22_n0_nat
noncomputable def Gq22_n0 : (Ex → St → Ans) → St → Ans := (sumN decq22_n0 nodeDq22_n0 outq22_n0)
theorem Gq22_n0_ok : CSum Tryz.prog 19 Lq22_n0 Gq22_n0 := GNq22_n0_ok
noncomputable def annq22 : Ann := (.seq .none (.seq (.seq (.cut 0 [1] Gq22_n0) .none) .none))
theorem annq22_ok : AnnOk Tryz.prog 19 bq22 annq22 := ⟨(annOk_none _ _ _),⟨⟨Gq22_n0_ok,(annOk_none _ _ _)⟩,(annOk_none _ _ _)⟩⟩
abbrev Aq22 := (Int) × (Int) × (Int)
abbrev Yq22 := (Int)
def fnq22 {β : Type} : Aq22 → (Yq22 → Option β) → Option β := fun (a0_0,a0_1,a0_2) exit => (bindO (nodeDq22_n0 (a0_0,a0_1,a0_2)) fun t18 => (bif t18 then (exit ((3 : Int))) else (exit ((0 : Int)))))
def fnDq22 (a : Aq22) : Option Yq22 := fnq22 a some
theorem fnq22_nat (a : Aq22) (k : Yq22 → Ans) : fnq22 a k = bindO (fnDq22 a) k := by
  obtain ⟨a0_0,a0_1,a0_2⟩ := a
  simp only [fnDq22,fnq22,bindO_cond,bindO_assoc,bindO_none,bindO_pure,bindO_elim,bindO_unP,bindO_empty]
def argsq22 : Aq22 → List AV := fun (a0_0,a0_1,a0_2) => [.agg [.int .i64 a0_0,.int .i64 a0_1,.int .i64 a0_2]]
def decPAq22 (l : List AV) : Option {a : Aq22 // l = argsq22 a} := match l with
  | [.agg [.int .i64 a0_0,.int .i64 a0_1,.int .i64 a0_2]] => some ⟨(a0_0,a0_1,a0_2),rfl⟩
  | _ => none
def decAq22 (l : List AV) : Option Aq22 := pk (decPAq22 l)
theorem decAq22_ok (l : List AV) (a : Aq22) (h : decAq22 l = some a) : l = argsq22 a := pk_ok (o := decPAq22 l) h
def rendq22 : Aq22 → Yq22 → AV := fun (a0_0,a0_1,a0_2) => fun r_y => .int .i64 r_y
theorem rendq22_ok : ∀ (a : Aq22) (y : Yq22),(rendq22 a y).closed1 = true := by
  rintro ⟨a0_0,a0_1,a0_2⟩ y <;> first | rfl | exact Empty.elim y
theorem fnq22_ok (a : Aq22) : fnE Tryz.tab envq22 noHint 0 70 68 Tryz.f68.ntmps Tryz.f68.results.toList annq22 bq22 (argsq22 a) [] (fun v _ => some (v,[])) = fnq22 a (fun y => some (rendq22 a y,[])) := by kernel_rfl
def vFq22 (a : Aq22) (K : AV → Ans) : Ans := bindO (fnDq22 a) fun y => K (rendq22 a y)
def Fq22 : List AV → (AV → Ans) → Ans := fun l K => bindO (decAq22 l) fun a => vFq22 a K
theorem Fq22_ok : PureOk Tryz.prog 68 Fq22 := pure_mkD (hint := noHint) (d := 0) (n := 70) mixed tabOk envq22Ok Tryz.func68 (bodySome (by kernel_rfl)) (by decide +kernel) annq22_ok decAq22_ok fnq22_ok fnq22_nat rendq22_ok
--@ layout_checked
noncomputable def envq26 : Env := [(140,.pure Fq28),(68,.pure Fq22)]
theorem envq26Ok : EnvOk Tryz.prog envq26 := EnvOk.cons Fq28_ok (EnvOk.cons Fq22_ok (EnvOk.nil))
noncomputable def bq26 : Code := Tryz.f120.body.getD .skip
noncomputable def annq26 : Ann := .none
theorem annq26_ok : AnnOk Tryz.prog 18 bq26 annq26 := (annOk_none _ _ _)
abbrev Aq26 := (Int) × (Int) × (Int) × (Int) × (Int)
abbrev Yq26 := (Int)
def fnq26 {β : Type} : Aq26 → (Yq26 → Option β) → Option β := fun (a0_0,a0_1,a0_2,a1,a2) exit => (bindO (fnDq22 (a0_0,a0_1,a0_2)) fun r => (bif r != (0 : Int) then (exit (r)) else (bindO (fnDq28 (a1,(0 : Int),IntKind.wrap .i64 (a2 - (1 : Int)))) fun r_2 => (bif !r_2 then (exit ((3 : Int))) else (exit ((0 : Int)))))))
def fnDq26 (a : Aq26) : Option Yq26 := fnq26 a some
theorem fnq26_nat (a : Aq26) (k : Yq26 → Ans) : fnq26 a k = bindO (fnDq26 a) k := by
  obtain ⟨a0_0,a0_1,a0_2,a1,a2⟩ := a
  simp only [fnDq26,fnq26,bindO_cond,bindO_assoc,bindO_none,bindO_pure,bindO_elim,bindO_unP,bindO_empty]
def argsq26 : Aq26 → List AV := fun (a0_0,a0_1,a0_2,a1,a2) => [.agg [.int .i64 a0_0,.int .i64 a0_1,.int .i64 a0_2],.int .i64 a1,.int .i64 a2]
def decPAq26 (l : List AV) : Option {a : Aq26 // l = argsq26 a} := match l with
  | [.agg [.int .i64 a0_0,.int .i64 a0_1,.int .i64 a0_2],.int .i64 a1,.int .i64 a2] => some ⟨(a0_0,a0_1,a0_2,a1,a2),rfl⟩
  | _ => none
def decAq26 (l : List AV) : Option Aq26 := pk (decPAq26 l)
theorem decAq26_ok (l : List AV) (a : Aq26) (h : decAq26 l = some a) : l = argsq26 a := pk_ok (o := decPAq26 l) h
def rendq26 : Aq26 → Yq26 → AV := fun (a0_0,a0_1,a0_2,a1,a2) => fun r_y => .int .i64 r_y
theorem rendq26_ok : ∀ (a : Aq26) (y : Yq26),(rendq26 a y).closed1 = true := by
  rintro ⟨a0_0,a0_1,a0_2,a1,a2⟩ y <;> first | rfl | exact Empty.elim y
theorem fnq26_ok (a : Aq26) : fnE Tryz.tab envq26 noHint 0 70 120 Tryz.f120.ntmps Tryz.f120.results.toList annq26 bq26 (argsq26 a) [] (fun v _ => some (v,[])) = fnq26 a (fun y => some (rendq26 a y,[])) := by kernel_rfl
def vFq26 (a : Aq26) (K : AV → Ans) : Ans := bindO (fnDq26 a) fun y => K (rendq26 a y)
def Fq26 : List AV → (AV → Ans) → Ans := fun l K => bindO (decAq26 l) fun a => vFq26 a K
theorem Fq26_ok : PureOk Tryz.prog 120 Fq26 := pure_mkD (hint := noHint) (d := 0) (n := 70) mixed tabOk envq26Ok Tryz.func120 (bodySome (by kernel_rfl)) (by decide +kernel) annq26_ok decAq26_ok fnq26_ok fnq26_nat rendq26_ok
--@ layout_of
noncomputable def envq27 : Env := [(68,.pure Fq22)]
theorem envq27Ok : EnvOk Tryz.prog envq27 := EnvOk.cons Fq22_ok (EnvOk.nil)
noncomputable def bq27 : Code := Tryz.f117.body.getD .skip
noncomputable def annq27 : Ann := .none
theorem annq27_ok : AnnOk Tryz.prog 46 bq27 annq27 := (annOk_none _ _ _)
abbrev Aq27 := (Int) × (Int) × (Int)
abbrev Yq27 := (Int) × (Int) × (Int) × (Int) × (Int) × (Int)
def fnq27 {β : Type} : Aq27 → (Yq27 → Option β) → Option β := fun (a0_0,a0_1,a0_2) exit => (bindO (fnDq22 (a0_0,a0_1,a0_2)) fun r => (bif r != (0 : Int) then (exit ((0 : Int),(0 : Int),(0 : Int),(0 : Int),(0 : Int),(0 : Int))) else (exit ((1 : Int),(2 : Int),IntKind.wrap .i64 ((2 : Int) + IntKind.wrap .i64 (Int.tdiv (IntKind.wrap .i64 (IntKind.wrap .i64 (a0_0 + (2 : Int)) - (1 : Int))) (2 : Int))),IntKind.wrap .i64 (IntKind.wrap .i64 ((2 : Int) + IntKind.wrap .i64 (Int.tdiv (IntKind.wrap .i64 (IntKind.wrap .i64 (a0_0 + (2 : Int)) - (1 : Int))) (2 : Int))) + IntKind.wrap .i64 (a0_0 * (2 : Int))),IntKind.wrap .i64 (IntKind.wrap .i64 (IntKind.wrap .i64 ((2 : Int) + IntKind.wrap .i64 (Int.tdiv (IntKind.wrap .i64 (IntKind.wrap .i64 (a0_0 + (2 : Int)) - (1 : Int))) (2 : Int))) + IntKind.wrap .i64 (a0_0 * (2 : Int))) + IntKind.wrap .i64 (a0_1 * (5 : Int))),IntKind.wrap .i64 (IntKind.wrap .i64 (IntKind.wrap .i64 (IntKind.wrap .i64 ((2 : Int) + IntKind.wrap .i64 (Int.tdiv (IntKind.wrap .i64 (IntKind.wrap .i64 (a0_0 + (2 : Int)) - (1 : Int))) (2 : Int))) + IntKind.wrap .i64 (a0_0 * (2 : Int))) + IntKind.wrap .i64 (a0_1 * (5 : Int))) + a0_2)))))
def fnDq27 (a : Aq27) : Option Yq27 := fnq27 a some
theorem fnq27_nat (a : Aq27) (k : Yq27 → Ans) : fnq27 a k = bindO (fnDq27 a) k := by
  obtain ⟨a0_0,a0_1,a0_2⟩ := a
  simp only [fnDq27,fnq27,bindO_cond,bindO_assoc,bindO_none,bindO_pure,bindO_elim,bindO_unP,bindO_empty]
def argsq27 : Aq27 → List AV := fun (a0_0,a0_1,a0_2) => [.agg [.int .i64 a0_0,.int .i64 a0_1,.int .i64 a0_2]]
def decPAq27 (l : List AV) : Option {a : Aq27 // l = argsq27 a} := match l with
  | [.agg [.int .i64 a0_0,.int .i64 a0_1,.int .i64 a0_2]] => some ⟨(a0_0,a0_1,a0_2),rfl⟩
  | _ => none
def decAq27 (l : List AV) : Option Aq27 := pk (decPAq27 l)
theorem decAq27_ok (l : List AV) (a : Aq27) (h : decAq27 l = some a) : l = argsq27 a := pk_ok (o := decPAq27 l) h
def rendq27 : Aq27 → Yq27 → AV := fun (a0_0,a0_1,a0_2) => unP fun r_1_y => unP fun r_2_y => unP fun r_3_y => unP fun r_4_y => unP fun r_5_y r_6_y => .agg [.int .i64 (0),.int .i64 r_1_y,.int .i64 r_2_y,.int .i64 r_3_y,.int .i64 r_4_y,.int .i64 r_5_y,.int .i64 r_6_y]
theorem rendq27_ok : ∀ (a : Aq27) (y : Yq27),(rendq27 a y).closed1 = true := by
  rintro ⟨a0_0,a0_1,a0_2⟩ y <;> first | rfl | exact Empty.elim y
theorem fnq27_ok (a : Aq27) : fnE Tryz.tab envq27 noHint 0 70 117 Tryz.f117.ntmps Tryz.f117.results.toList annq27 bq27 (argsq27 a) [] (fun v _ => some (v,[])) = fnq27 a (fun y => some (rendq27 a y,[])) := by kernel_rfl
def vFq27 (a : Aq27) (K : AV → Ans) : Ans := bindO (fnDq27 a) fun y => K (rendq27 a y)
def Fq27 : List AV → (AV → Ans) → Ans := fun l K => bindO (decAq27 l) fun a => vFq27 a K
theorem Fq27_ok : PureOk Tryz.prog 117 Fq27 := pure_mkD (hint := noHint) (d := 0) (n := 70) mixed tabOk envq27Ok Tryz.func117 (bodySome (by kernel_rfl)) (by decide +kernel) annq27_ok decAq27_ok fnq27_ok fnq27_nat rendq27_ok
--@ layout_Table
noncomputable def envq25 : Env := [(120,.pure Fq26),(117,.pure Fq27)]
theorem envq25Ok : EnvOk Tryz.prog envq25 := EnvOk.cons Fq26_ok (EnvOk.cons Fq27_ok (EnvOk.nil))
noncomputable def bq25 : Code := Tryz.f65.body.getD .skip
noncomputable def annq25 : Ann := .none
theorem annq25_ok : AnnOk Tryz.prog 24 bq25 annq25 := (annOk_none _ _ _)
abbrev Aq25 := (Int) × (Int) × (Int) × (Int)
abbrev Yq25 := (Int) × (Int) × (Int)
def fnq25 {β : Type} : Aq25 → (Yq25 → Option β) → Option β := fun (a0_0,a0_1,a0_2,a1) exit => (bindO (fnDq26 (a0_0,a0_1,a0_2,a1,a0_0)) fun r => (bif r != (0 : Int) then (exit ((0 : Int),(0 : Int),r)) else (bindO (fnDq27 (a0_0,a0_1,a0_2)) (unP fun r_1 => unP fun r_2 => unP fun r_3 => unP fun r_4 => unP fun r_5 r_6 => (exit (IntKind.wrap .i64 (r_2 + IntKind.wrap .i64 (Int.tdiv a1 (2 : Int))),Int.tmod a1 (2 : Int),(0 : Int)))))))
def fnDq25 (a : Aq25) : Option Yq25 := fnq25 a some
theorem fnq25_nat (a : Aq25) (k : Yq25 → Ans) : fnq25 a k = bindO (fnDq25 a) k := by
  obtain ⟨a0_0,a0_1,a0_2,a1⟩ := a
  simp only [fnDq25,fnq25,bindO_cond,bindO_assoc,bindO_none,bindO_pure,bindO_elim,bindO_unP,bindO_empty]
def argsq25 : Aq25 → List AV := fun (a0_0,a0_1,a0_2,a1) => [.agg [.int .i64 a0_0,.int .i64 a0_1,.int .i64 a0_2],.int .i64 a1]
def decPAq25 (l : List AV) : Option {a : Aq25 // l = argsq25 a} := match l with
  | [.agg [.int .i64 a0_0,.int .i64 a0_1,.int .i64 a0_2],.int .i64 a1] => some ⟨(a0_0,a0_1,a0_2,a1),rfl⟩
  | _ => none
def decAq25 (l : List AV) : Option Aq25 := pk (decPAq25 l)
theorem decAq25_ok (l : List AV) (a : Aq25) (h : decAq25 l = some a) : l = argsq25 a := pk_ok (o := decPAq25 l) h
def rendq25 : Aq25 → Yq25 → AV := fun (a0_0,a0_1,a0_2,a1) => unP fun r_0_y => unP fun r_1_y r_2_y => .tup [.int .i64 r_0_y,.int .i64 r_1_y,.int .i64 r_2_y]
theorem rendq25_ok : ∀ (a : Aq25) (y : Yq25),(rendq25 a y).closed1 = true := by
  rintro ⟨a0_0,a0_1,a0_2,a1⟩ y <;> first | rfl | exact Empty.elim y
theorem fnq25_ok (a : Aq25) : fnE Tryz.tab envq25 noHint 0 70 65 Tryz.f65.ntmps Tryz.f65.results.toList annq25 bq25 (argsq25 a) [] (fun v _ => some (v,[])) = fnq25 a (fun y => some (rendq25 a y,[])) := by kernel_rfl
def vFq25 (a : Aq25) (K : AV → Ans) : Ans := bindO (fnDq25 a) fun y => K (rendq25 a y)
def Fq25 : List AV → (AV → Ans) → Ans := fun l K => bindO (decAq25 l) fun a => vFq25 a K
theorem Fq25_ok : PureOk Tryz.prog 65 Fq25 := pure_mkD (hint := noHint) (d := 0) (n := 70) mixed tabOk envq25Ok Tryz.func65 (bodySome (by kernel_rfl)) (by decide +kernel) annq25_ok decAq25_ok fnq25_ok fnq25_nat rendq25_ok
--@ wal_Wal_Read
noncomputable def envq87 : Env := []
theorem envq87Ok : EnvOk Tryz.prog envq87 := EnvOk.nil
noncomputable def bq87 : Code := Tryz.f30.body.getD .skip
noncomputable def annq87 : Ann := .none
theorem annq87_ok : AnnOk Tryz.prog 29 bq87 annq87 := (annOk_none _ _ _)
abbrev Aq87 := (Int)
abbrev Yq87 := Unit
def fnq87 {β : Type} : Aq87 → (Yq87 → Option β) → Option β := fun a1 exit => (exit ())
def fnDq87 (a : Aq87) : Option Yq87 := fnq87 a some
theorem fnq87_nat (a : Aq87) (k : Yq87 → Ans) : fnq87 a k = bindO (fnDq87 a) k := by
  obtain z := a
  simp only [fnDq87,fnq87,bindO_cond,bindO_assoc,bindO_none,bindO_pure,bindO_elim,bindO_unP,bindO_empty]
def argsq87 : Aq87 → List AV × List AE.Obj := fun a1 => ([.nilp,.int .i64 a1],[])
def decPAq87 (l : List AV) (H : List AE.Obj) : Option {a : Aq87 // (l,H) = argsq87 a} := match l,H with
  | [.nilp,.int .i64 a1],[] => some ⟨(a1),rfl⟩
  | _,_ => none
def decAq87 (l : List AV) (H : List AE.Obj) : Option Aq87 := pk (decPAq87 l H)
theorem decAq87_ok (l : List AV) (H : List AE.Obj) (a : Aq87) (h : decAq87 l H = some a) : (l,H) = argsq87 a := pk_ok (o := decPAq87 l H) h
def outq87 : Aq87 → (AV → List AE.Obj → Ans) → Yq87 → Ans := fun a1 K => fun _ => K (.tup [.str ([]),.int .i64 (10)]) []
theorem fnq87_ok (a : Aq87) (K : AV → List AE.Obj → Ans) : fnE Tryz.tab envq87 noHint 0 70 30 Tryz.f30.ntmps Tryz.f30.results.toList annq87 bq87 (argsq87 a).1 (argsq87 a).2 K = fnq87 a (outq87 a K) := by kernel_rfl
def vFq87 (a : Aq87) (K : AV → List AE.Obj → Ans) : Ans := bindO (fnDq87 a) fun y => outq87 a K y
def Fq87 : List AV → List AE.Obj → (AV → List AE.Obj → Ans) → Ans := fun l H K => bindO (decAq87 l H) fun a => vFq87 a K
theorem Fq87_ok : FuncOk Tryz.prog 30 Fq87 := func_mkD (hint := noHint) (d := 0) (n := 70) mixed tabOk envq87Ok Tryz.func30 (bodySome (by kernel_rfl)) (by decide +kernel) annq87_ok decAq87_ok fnq87_ok fnq87_nat
--@ table_Table_sector
noncomputable def envq86 : Env := [(65,.pure Fq25),(30,.func Fq87)]
theorem envq86Ok : EnvOk Tryz.prog envq86 := EnvOk.cons Fq25_ok (EnvOk.cons Fq87_ok (EnvOk.nil))
noncomputable def bq86 : Code := Tryz.f137.body.getD .skip
noncomputable def annq86 : Ann := .none
theorem annq86_ok : AnnOk Tryz.prog 51 bq86 annq86 := (annOk_none _ _ _)
abbrev Aq86 := (Int) × (Int) × (Int) × (Int)
abbrev Yq86 := (Int) × (Int) × (Int)
def fnq86 {β : Type} : Aq86 → (Yq86 → Option β) → Option β := fun (a1,o0_1,o0_2,o0_3) exit => (bindO (fnDq25 (o0_1,o0_2,o0_3,a1)) (unP fun r_0 => unP fun r_1 r_2 => (bif r_2 != (0 : Int) then (exit (r_0,r_1,r_2)) else (bindO (fnDq87 (r_0)) fun _ => (exit (r_0,r_1,(10 : Int)))))))
def fnDq86 (a : Aq86) : Option Yq86 := fnq86 a some
theorem fnq86_nat (a : Aq86) (k : Yq86 → Ans) : fnq86 a k = bindO (fnDq86 a) k := by
  obtain ⟨a1,o0_1,o0_2,o0_3⟩ := a
  simp only [fnDq86,fnq86,bindO_cond,bindO_assoc,bindO_none,bindO_pure,bindO_elim,bindO_unP,bindO_empty]
def argsq86 : Aq86 → List AV × List AE.Obj := fun (a1,o0_1,o0_2,o0_3) => ([.ptr 0 0,.int .i64 a1],[.cells [.nilp,.int .i64 o0_1,.int .i64 o0_2,.int .i64 o0_3]])
def decPAq86 (l : List AV) (H : List AE.Obj) : Option {a : Aq86 // (l,H) = argsq86 a} := match l,H with
  | [.ptr 0 0,.int .i64 a1],[.cells [.nilp,.int .i64 o0_1,.int .i64 o0_2,.int .i64 o0_3]] => some ⟨(a1,o0_1,o0_2,o0_3),rfl⟩
  | _,_ => none
def decAq86 (l : List AV) (H : List AE.Obj) : Option Aq86 := pk (decPAq86 l H)
theorem decAq86_ok (l : List AV) (H : List AE.Obj) (a : Aq86) (h : decAq86 l H = some a) : (l,H) = argsq86 a := pk_ok (o := decPAq86 l H) h
def outq86 : Aq86 → (AV → List AE.Obj → Ans) → Yq86 → Ans := fun (a1,o0_1,o0_2,o0_3) K => unP fun r_0_y => unP fun r_1_y r_3_y => K (.tup [.int .i64 r_0_y,.int .i64 r_1_y,.agg [.int .i64 (0),.int .i64 (0),.int .i64 (0),.int .i64 (0),.int .i64 (0),.int .i64 (0)],.int .i64 r_3_y]) [.cells [.nilp,.int .i64 o0_1,.int .i64 o0_2,.int .i64 o0_3]]
theorem fnq86_ok (a : Aq86) (K : AV → List AE.Obj → Ans) : fnE Tryz.tab envq86 noHint 0 70 137 Tryz.f137.ntmps Tryz.f137.results.toList annq86 bq86 (argsq86 a).1 (argsq86 a).2 K = fnq86 a (outq86 a K) := by kernel_rfl
def vFq86 (a : Aq86) (K : AV → List AE.Obj → Ans) : Ans := bindO (fnDq86 a) fun y => outq86 a K y
def Fq86 : List AV → List AE.Obj → (AV → List AE.Obj → Ans) → Ans := fun l H K => bindO (decAq86 l H) fun a => vFq86 a K
theorem Fq86_ok : FuncOk Tryz.prog 137 Fq86 := func_mkD (hint := noHint) (d := 0) (n := 70) mixed tabOk envq86Ok Tryz.func137 (bodySome (by kernel_rfl)) (by decide +kernel) annq86_ok decAq86_ok fnq86_ok fnq86_nat
--@ table_Table_Get_2
noncomputable def envq84 : Env := [(137,.func Fq86)]
theorem envq84Ok : EnvOk Tryz.prog envq84 := EnvOk.cons Fq86_ok (EnvOk.nil)
noncomputable def bq84 : Code := Tryz.f62.body.getD .skip
noncomputable def annq84 : Ann := .none
theorem annq84_ok : AnnOk Tryz.prog 28 bq84 annq84 := (annOk_none _ _ _)
abbrev Aq84 := (Int) × (Int) × (Int) × (Int)
abbrev Yq84 := (Int)
def fnq84 {β : Type} : Aq84 → (Yq84 → Option β) → Option β := fun (a1,o0_1,o0_2,o0_3) exit => (bindO (fnDq86 (a1,o0_1,o0_2,o0_3)) (unP fun r_0 => unP fun r_1 r_3 => (bif r_3 != (0 : Int) then (exit (r_3)) else (bif r_1 == (0 : Int) then (exit ((0 : Int))) else (bif r_1 == (1 : Int) then (exit ((0 : Int))) else none)))))
def fnDq84 (a : Aq84) : Option Yq84 := fnq84 a some
theorem fnq84_nat (a : Aq84) (k : Yq84 → Ans) : fnq84 a k = bindO (fnDq84 a) k := by
  obtain ⟨a1,o0_1,o0_2,o0_3⟩ := a
  simp only [fnDq84,fnq84,bindO_cond,bindO_assoc,bindO_none,bindO_pure,bindO_elim,bindO_unP,bindO_empty]
def argsq84 : Aq84 → List AV × List AE.Obj := fun (a1,o0_1,o0_2,o0_3) => ([.ptr 0 0,.int .i64 a1],[.cells [.nilp,.int .i64 o0_1,.int .i64 o0_2,.int .i64 o0_3]])
def decPAq84 (l : List AV) (H : List AE.Obj) : Option {a : Aq84 // (l,H) = argsq84 a} := match l,H with
  | [.ptr 0 0,.int .i64 a1],[.cells [.nilp,.int .i64 o0_1,.int .i64 o0_2,.int .i64 o0_3]] => some ⟨(a1,o0_1,o0_2,o0_3),rfl⟩
  | _,_ => none
def decAq84 (l : List AV) (H : List AE.Obj) : Option Aq84 := pk (decPAq84 l H)
theorem decAq84_ok (l : List AV) (H : List AE.Obj) (a : Aq84) (h : decAq84 l H = some a) : (l,H) = argsq84 a := pk_ok (o := decPAq84 l H) h
def outq84 : Aq84 → (AV → List AE.Obj → Ans) → Yq84 → Ans := fun (a1,o0_1,o0_2,o0_3) K => fun r_1_y => K (.tup [.agg [.int .i64 (0),.int .i64 (0),.int .i64 (0)],.int .i64 r_1_y]) [.cells [.nilp,.int .i64 o0_1,.int .i64 o0_2,.int .i64 o0_3]]
theorem fnq84_ok (a : Aq84) (K : AV → List AE.Obj → Ans) : fnE Tryz.tab envq84 noHint 0 70 62 Tryz.f62.ntmps Tryz.f62.results.toList annq84 bq84 (argsq84 a).1 (argsq84 a).2 K = fnq84 a (outq84 a K) := by kernel_rfl
def vFq84 (a : Aq84) (K : AV → List AE.Obj → Ans) : Ans := bindO (fnDq84 a) fun y => outq84 a K y
def Fq84 : List AV → List AE.Obj → (AV → List AE.Obj → Ans) → Ans := fun l H K => bindO (decAq84 l H) fun a => vFq84 a K
theorem Fq84_ok : FuncOk Tryz.prog 62 Fq84 := func_mkD (hint := noHint) (d := 0) (n := 70) mixed tabOk envq84Ok Tryz.func62 (bodySome (by kernel_rfl)) (by decide +kernel) annq84_ok decAq84_ok fnq84_ok fnq84_nat
--@ table_Table_Put
noncomputable def envq85 : Env := []
theorem envq85Ok : EnvOk Tryz.prog envq85 := EnvOk.nil
noncomputable def bq85 : Code := Tryz.f66.body.getD .skip
noncomputable def annq85 : Ann := .none
theorem annq85_ok : AnnOk Tryz.prog 65 bq85 annq85 := (annOk_none _ _ _)
abbrev Aq85 := (Int) × (Int) × (Int) × (Int)
abbrev Yq85 := Unit
def fnq85 {β : Type} : Aq85 → (Yq85 → Option β) → Option β := fun (a1,a2_0,a2_1,a2_2) exit => (exit ())
def fnDq85 (a : Aq85) : Option Yq85 := fnq85 a some
theorem fnq85_nat (a : Aq85) (k : Yq85 → Ans) : fnq85 a k = bindO (fnDq85 a) k := by
  obtain ⟨a1,a2_0,a2_1,a2_2⟩ := a
  simp only [fnDq85,fnq85,bindO_cond,bindO_assoc,bindO_none,bindO_pure,bindO_elim,bindO_unP,bindO_empty]
def argsq85 : Aq85 → List AV × List AE.Obj := fun (a1,a2_0,a2_1,a2_2) => ([.nilp,.int .i64 a1,.agg [.int .i64 a2_0,.int .i64 a2_1,.int .i64 a2_2]],[])
def decPAq85 (l : List AV) (H : List AE.Obj) : Option {a : Aq85 // (l,H) = argsq85 a} := match l,H with
  | [.nilp,.int .i64 a1,.agg [.int .i64 a2_0,.int .i64 a2_1,.int .i64 a2_2]],[] => some ⟨(a1,a2_0,a2_1,a2_2),rfl⟩
  | _,_ => none
def decAq85 (l : List AV) (H : List AE.Obj) : Option Aq85 := pk (decPAq85 l H)
theorem decAq85_ok (l : List AV) (H : List AE.Obj) (a : Aq85) (h : decAq85 l H = some a) : (l,H) = argsq85 a := pk_ok (o := decPAq85 l H) h
def outq85 : Aq85 → (AV → List AE.Obj → Ans) → Yq85 → Ans := fun (a1,a2_0,a2_1,a2_2) K => fun _ => K (.int .i64 (10)) []
theorem fnq85_ok (a : Aq85) (K : AV → List AE.Obj → Ans) : fnE Tryz.tab envq85 noHint 0 70 66 Tryz.f66.ntmps Tryz.f66.results.toList annq85 bq85 (argsq85 a).1 (argsq85 a).2 K = fnq85 a (outq85 a K) := by kernel_rfl
def vFq85 (a : Aq85) (K : AV → List AE.Obj → Ans) : Ans := bindO (fnDq85 a) fun y => outq85 a K y
def Fq85 : List AV → List AE.Obj → (AV → List AE.Obj → Ans) → Ans := fun l H K => bindO (decAq85 l H) fun a => vFq85 a K
theorem Fq85_ok : FuncOk Tryz.prog 66 Fq85 := func_mkD (hint := noHint) (d := 0) (n := 70) mixed tabOk envq85Ok Tryz.func66 (bodySome (by kernel_rfl)) (by decide +kernel) annq85_ok decAq85_ok fnq85_ok fnq85_nat
--@ table_Table_Format
noncomputable def envq82 : Env := []
theorem envq82Ok : EnvOk Tryz.prog envq82 := EnvOk.nil
noncomputable def bq82 : Code := Tryz.f67.body.getD .skip
noncomputable def annq82 : Ann := .none
theorem annq82_ok : AnnOk Tryz.prog 61 bq82 annq82 := (annOk_none _ _ _)
abbrev Aq82 := Unit
abbrev Yq82 := Unit
def fnq82 {β : Type} : Aq82 → (Yq82 → Option β) → Option β := fun _ exit => (exit ())
def fnDq82 (a : Aq82) : Option Yq82 := fnq82 a some
theorem fnq82_nat (a : Aq82) (k : Yq82 → Ans) : fnq82 a k = bindO (fnDq82 a) k := by
  obtain z := a
  simp only [fnDq82,fnq82,bindO_cond,bindO_assoc,bindO_none,bindO_pure,bindO_elim,bindO_unP,bindO_empty]
def argsq82 : Aq82 → List AV × List AE.Obj := fun _ => ([.nilp],[])
def decPAq82 (l : List AV) (H : List AE.Obj) : Option {a : Aq82 // (l,H) = argsq82 a} := match l,H with
  | [.nilp],[] => some ⟨(),rfl⟩
  | _,_ => none
def decAq82 (l : List AV) (H : List AE.Obj) : Option Aq82 := pk (decPAq82 l H)
theorem decAq82_ok (l : List AV) (H : List AE.Obj) (a : Aq82) (h : decAq82 l H = some a) : (l,H) = argsq82 a := pk_ok (o := decPAq82 l H) h
def outq82 : Aq82 → (AV → List AE.Obj → Ans) → Yq82 → Ans := fun _ K => fun _ => K (.int .i64 (10)) []
theorem fnq82_ok (a : Aq82) (K : AV → List AE.Obj → Ans) : fnE Tryz.tab envq82 noHint 0 70 67 Tryz.f67.ntmps Tryz.f67.results.toList annq82 bq82 (argsq82 a).1 (argsq82 a).2 K = fnq82 a (outq82 a K) := by kernel_rfl
def vFq82 (a : Aq82) (K : AV → List AE.Obj → Ans) : Ans := bindO (fnDq82 a) fun y => outq82 a K y
def Fq82 : List AV → List AE.Obj → (AV → List AE.Obj → Ans) → Ans := fun l H K => bindO (decAq82 l H) fun a => vFq82 a K
theorem Fq82_ok : FuncOk Tryz.prog 67 Fq82 := func_mkD (hint := noHint) (d := 0) (n := 70) mixed tabOk envq82Ok Tryz.func67 (bodySome (by kernel_rfl)) (by decide +kernel) annq82_ok decAq82_ok fnq82_ok fnq82_nat
--@ law18_TableNone
noncomputable def envq21 : Env := [(61,.pure Flaw18_works),(62,.func (altF decAq83 vFq83 Fq84)),(63,.func Fq81),(64,.func Fq80),(65,.pure Fq25),(66,.func Fq85),(67,.func Fq82)]
theorem envq21Ok : EnvOk Tryz.prog envq21 := EnvOk.cons Flaw18_works_ok (EnvOk.cons (func_altF Fq83_ok Fq84_ok) (EnvOk.cons Fq81_ok (EnvOk.cons Fq80_ok (EnvOk.cons Fq25_ok (EnvOk.cons Fq85_ok (EnvOk.cons Fq82_ok (EnvOk.nil)))))))
noncomputable def bq21 : Code := Tryz.f9.body.getD .skip
noncomputable def Lq21_n1 : Code := codeAt [1,1,1,1,1,1,1,1,1,0] bq21
noncomputable def annLq21_n1 : Ann := .none
theorem annLq21_n1_ok : AnnOk Tryz.prog 71 Lq21_n1 annLq21_n1 := (annOk_none _ _ _)
abbrev Iq21_n1 := (Int) × (Int) × (Int) × (Int) × (Int) × (Int)
abbrev Yq21_n1 := (Bool)
def Sq21_n1 : Iq21_n1 → St := fun (t1,t14,t17,o0_0,o0_1,o0_2) => { env := [(1,.int .i64 t1),(5,.ptr 0 0),(7,.nilp),(9,.int .i64 (10)),(11,.int .i64 (10)),(14,.int .i64 t14),(17,.int .i64 t17)],stk := [[]],H := [.cells [.int .i64 o0_0,.int .i64 o0_1,.int .i64 o0_2]],blk := 36864 }
def decPq21_n1 (s : St) : Option {x : Iq21_n1 // s = Sq21_n1 x} := match s with
  | { env := [(1,.int .i64 t1),(5,.ptr 0 0),(7,.nilp),(9,.int .i64 r1),(11,.int .i64 r2),(14,.int .i64 t14),(17,.int .i64 t17)],stk := [[]],H := [.cells [.int .i64 o0_0,.int .i64 o0_1,.int .i64 o0_2]],blk := 36864 } => if h1 : r1 = 10 then if h2 : r2 = 10 then some ⟨(t1,t14,t17,o0_0,o0_1,o0_2),by subst h1 h2; rfl⟩ else none else none
  | _ => none
def decq21_n1 (s : St) : Option Iq21_n1 := pk (decPq21_n1 s)
theorem decq21_n1_ok (s : St) (x : Iq21_n1) (h : decq21_n1 s = some x) : s = Sq21_n1 x := pk_ok (o := decPq21_n1 s) h
def outq21_n1 : Iq21_n1 → (Ex → St → Ans) → Yq21_n1 → Ans := fun (t1,t14,t17,o0_0,o0_1,o0_2) K => fun t6_y => K (Ex.norm) { env := [(6,.bool t6_y)],stk := [[]],H := [],blk := 36864 }
def nodeq21_n1 {β : Type} : Iq21_n1 → (Yq21_n1 → Option β) → Option β := fun (t1,t14,t17,o0_0,o0_1,o0_2) exit => (bindO (fnDq85 (t1,o0_0,o0_1,o0_2)) fun _ => (bindO (fnDq82 ()) fun _ => (exit (t14 == t17))))
def nodeDq21_n1 (i : Iq21_n1) : Option Yq21_n1 := nodeq21_n1 i some
theorem nodeq21_n1_nat (i : Iq21_n1) (k : Yq21_n1 → Ans) : nodeq21_n1 i k = bindO (nodeDq21_n1 i) k := by
  obtain ⟨t1,t14,t17,o0_0,o0_1,o0_2⟩ := i
  simp only [nodeDq21_n1,nodeq21_n1,bindO_cond,bindO_assoc,bindO_none,bindO_pure,bindO_elim,bindO_unP,bindO_empty]
theorem nodeq21_n1_ok (i : Iq21_n1) (K : Ex → St → Ans) : codeI Tryz.tab envq21 noHint (codeD Tryz.tab envq21 noHint 0 64) 70 71 annLq21_n1 Lq21_n1 (weakP 0 (exk [6] [6] []) K) (Sq21_n1 i) = nodeq21_n1 i (outq21_n1 i K) := by kernel_rfl
theorem GNq21_n1_ok : CSum Tryz.prog 71 Lq21_n1 (sumN decq21_n1 nodeDq21_n1 outq21_n1) := csum_node mixed tabOk envq21Ok 0 (exk [6] [6] []) annLq21_n1_ok decq21_n1_ok nodeq21_n1_ok nodeq21_n1_nat
noncomputable def Gq21_n1 : (Ex → St → Ans) → St → Ans := (sumN decq21_n1 nodeDq21_n1 outq21_n1)
theorem Gq21_n1_ok : CSum Tryz.prog 71 Lq21_n1 Gq21_n1 := GNq21_n1_ok
noncomputable def Lq21_n0 : Code := codeAt [1,1,1,1,1,1,1,1,0,1] bq21
noncomputable def annLq21_n0 : Ann := .none
theorem annLq21_n0_ok : AnnOk Tryz.prog 71 Lq21_n0 annLq21_n0 := (annOk_none _ _ _)
abbrev Iq21_n0 := (Int) × (Int) × (Int) × (Bool) × (Int) × (Int) × (Int)
abbrev Yq21_n0 := (Int)
def Sq21_n0 : Iq21_n0 → St := fun (t1,t14,t17,t47,o0_0,o0_1,o0_2) => { env := [(1,.int .i64 t1),(5,.ptr 0 0),(7,.nilp),(9,.int .i64 (10)),(11,.int .i64 (10)),(14,.int .i64 t14),(17,.int .i64 t17),(47,.bool t47)],stk := [[]],H := [.cells [.int .i64 o0_0,.int .i64 o0_1,.int .i64 o0_2]],blk := 36864 }
def decPq21_n0 (s : St) : Option {x : Iq21_n0 // s = Sq21_n0 x} := match s with
  | { env := [(1,.int .i64 t1),(5,.ptr 0 0),(7,.nilp),(9,.int .i64 r1),(11,.int .i64 r2),(14,.int .i64 t14),(17,.int .i64 t17),(47,.bool t47)],stk := [[]],H := [.cells [.int .i64 o0_0,.int .i64 o0_1,.int .i64 o0_2]],blk := 36864 } => if h1 : r1 = 10 then if h2 : r2 = 10 then some ⟨(t1,t14,t17,t47,o0_0,o0_1,o0_2),by subst h1 h2; rfl⟩ else none else none
  | _ => none
def decq21_n0 (s : St) : Option Iq21_n0 := pk (decPq21_n0 s)
theorem decq21_n0_ok (s : St) (x : Iq21_n0) (h : decq21_n0 s = some x) : s = Sq21_n0 x := pk_ok (o := decPq21_n0 s) h
def outq21_n0 : Iq21_n0 → (Ex → St → Ans) → Yq21_n0 → Ans := fun (t1,t14,t17,t47,o0_0,o0_1,o0_2) K => fun t17_y => K (Ex.norm) { env := [(1,.int .i64 t1),(5,.ptr 0 0),(7,.nilp),(9,.int .i64 (10)),(11,.int .i64 (10)),(14,.int .i64 t14),(17,.int .i64 t17_y)],stk := [[]],H := [.cells [.int .i64 o0_0,.int .i64 o0_1,.int .i64 o0_2]],blk := 36864 }
def nodeq21_n0 {β : Type} : Iq21_n0 → (Yq21_n0 → Option β) → Option β := fun (t1,t14,t17,t47,o0_0,o0_1,o0_2) exit => (bif t47 then (exit ((10 : Int))) else (exit (t17)))
def nodeDq21_n0 (i : Iq21_n0) : Option Yq21_n0 := nodeq21_n0 i some
theorem nodeq21_n0_nat (i : Iq21_n0) (k : Yq21_n0 → Ans) : nodeq21_n0 i k = bindO (nodeDq21_n0 i) k := by
  obtain ⟨t1,t14,t17,t47,o0_0,o0_1,o0_2⟩ := i
  simp only [nodeDq21_n0,nodeq21_n0,bindO_cond,bindO_assoc,bindO_none,bindO_pure,bindO_elim,bindO_unP,bindO_empty]
theorem nodeq21_n0_ok (i : Iq21_n0) (K : Ex → St → Ans) : codeI Tryz.tab envq21 noHint (codeD Tryz.tab envq21 noHint 0 64) 70 71 annLq21_n0 Lq21_n0 (weakP 0 (exk [1,5,7,9,11,14,17] [6] []) K) (Sq21_n0 i) = nodeq21_n0 i (outq21_n0 i K) := by kernel_rfl
theorem GNq21_n0_ok : CSum Tryz.prog 71 Lq21_n0 (sumN decq21_n0 nodeDq21_n0 outq21_n0) := csum_node mixed tabOk envq21Ok 0 (exk [1,5,7,9,11,14,17] [6] []) annLq21_n0_ok decq21_n0_ok nodeq21_n0_ok nodeq21_n0_nat
noncomputable def Gq21_n0 : (Ex → St → Ans) → St → Ans := (sumN decq21_n0 nodeDq21_n0 outq21_n0)
theorem Gq21_n0_ok : CSum Tryz.prog 71 Lq21_n0 Gq21_n0 := GNq21_n0_ok
noncomputable def annq21 : Ann := (.seq .none (.seq .none (.seq .none (.seq .none (.seq .none (.seq .none (.seq .none (.seq .none (.seq (.seq .none (.cut 0 [1,5,7,9,11,14,17,47] Gq21_n0)) (.seq (.cut 0 [1,5,7,9,11,14,17] Gq21_n1) .none))))))))))
theorem annq21_ok : AnnOk Tryz.prog 71 bq21 annq21 := ⟨(annOk_none _ _ _),⟨(annOk_none _ _ _),⟨(annOk_none _ _ _),⟨(annOk_none _ _ _),⟨(annOk_none _ _ _),⟨(annOk_none _ _ _),⟨(annOk_none _ _ _),⟨(annOk_none _ _ _),⟨⟨(annOk_none _ _ _),Gq21_n0_ok⟩,⟨Gq21_n1_ok,(annOk_none _ _ _)⟩⟩⟩⟩⟩⟩⟩⟩⟩⟩
abbrev Aq21 := (Int) × (Int) × (Int) × (Int) × (Int) × (Int) × (Int)
abbrev Yq21 := (Bool)
def fnq21 {β : Type} : Aq21 → (Yq21 → Option β) → Option β := fun (a0_0,a0_1,a0_2,a1,a2_0,a2_1,a2_2) exit => (bindO (fnDlaw18_works ()) fun _ => (bindO (fnDq83 (a1)) fun _ => (bindO (fnDq81 ()) fun _ => (bindO (fnDq80 (a0_0,a0_1,a0_2)) fun _ => (bindO (fnDq84 (a1,a0_0,a0_1,a0_2)) fun r_1 => (bindO (fnDq25 (a0_0,a0_1,a0_2,a1)) (unP fun r_0 => unP fun r_1_2 r_2 => (bindO (nodeDq21_n0 (a1,r_1,r_2,r_2 == (0 : Int),a2_0,a2_1,a2_2)) fun t17 => (bindO (nodeDq21_n1 (a1,r_1,t17,a2_0,a2_1,a2_2)) fun t6 => (exit (t6)))))))))))
def fnDq21 (a : Aq21) : Option Yq21 := fnq21 a some
theorem fnq21_nat (a : Aq21) (k : Yq21 → Ans) : fnq21 a k = bindO (fnDq21 a) k := by
  obtain ⟨a0_0,a0_1,a0_2,a1,a2_0,a2_1,a2_2⟩ := a
  simp only [fnDq21,fnq21,bindO_cond,bindO_assoc,bindO_none,bindO_pure,bindO_elim,bindO_unP,bindO_empty]
def argsq21 : Aq21 → List AV × List AE.Obj := fun (a0_0,a0_1,a0_2,a1,a2_0,a2_1,a2_2) => ([.agg [.int .i64 a0_0,.int .i64 a0_1,.int .i64 a0_2],.int .i64 a1,.agg [.int .i64 a2_0,.int .i64 a2_1,.int .i64 a2_2]],[])
def decPAq21 (l : List AV) (H : List AE.Obj) : Option {a : Aq21 // (l,H) = argsq21 a} := match l,H with
  | [.agg [.int .i64 a0_0,.int .i64 a0_1,.int .i64 a0_2],.int .i64 a1,.agg [.int .i64 a2_0,.int .i64 a2_1,.int .i64 a2_2]],[] => some ⟨(a0_0,a0_1,a0_2,a1,a2_0,a2_1,a2_2),rfl⟩
  | _,_ => none
def decAq21 (l : List AV) (H : List AE.Obj) : Option Aq21 := pk (decPAq21 l H)
theorem decAq21_ok (l : List AV) (H : List AE.Obj) (a : Aq21) (h : decAq21 l H = some a) : (l,H) = argsq21 a := pk_ok (o := decPAq21 l H) h
def outq21 : Aq21 → (AV → List AE.Obj → Ans) → Yq21 → Ans := fun (a0_0,a0_1,a0_2,a1,a2_0,a2_1,a2_2) K => fun r_y => K (.bool r_y) []
theorem fnq21_ok (a : Aq21) (K : AV → List AE.Obj → Ans) : fnE Tryz.tab envq21 noHint 0 70 9 Tryz.f9.ntmps Tryz.f9.results.toList annq21 bq21 (argsq21 a).1 (argsq21 a).2 K = fnq21 a (outq21 a K) := by kernel_rfl
def vFq21 (a : Aq21) (K : AV → List AE.Obj → Ans) : Ans := bindO (fnDq21 a) fun y => outq21 a K y
def Fq21 : List AV → List AE.Obj → (AV → List AE.Obj → Ans) → Ans := fun l H K => bindO (decAq21 l H) fun a => vFq21 a K
theorem Fq21_ok : FuncOk Tryz.prog 9 Fq21 := func_mkD (hint := noHint) (d := 0) (n := 70) mixed tabOk envq21Ok Tryz.func9 (bodySome (by kernel_rfl)) (by decide +kernel) annq21_ok decAq21_ok fnq21_ok fnq21_nat
end Go.Proofs.R7T
namespace Go.Proofs.R7T
open Go Go.AE
open Go.Proofs.R7 (fnDlaw18_works)
theorem within_ex (a b c : Int) : ∃ r, fnDq28 (a, b, c) = some r := by
  simp only [fnDq28, fnq28, nodeDq28_n0, nodeq28_n0]
  cases decide (a ≥ b)
  · exact ⟨_, rfl⟩
  · exact ⟨_, rfl⟩
theorem check_ex (x y z : Int) : ∃ r, fnDq22 (x, y, z) = some r ∧ (r = 0 ∨ r = 3) := by
  obtain ⟨r1, h1⟩ := within_ex x 1 24
  obtain ⟨r2, h2⟩ := within_ex y 1 8
  obtain ⟨r3, h3⟩ := within_ex z 24 200
  simp only [fnDq22, fnq22, nodeDq22_n0, nodeq22_n0, h1, h2, h3, bindO]
  cases r1 <;> cases r2 <;> cases r3 <;> simp
theorem checked_ex (x y z n m : Int) : ∃ r, fnDq26 (x, y, z, n, m) = some r ∧ (r = 0 ∨ r = 3) := by
  obtain ⟨r, h, hr⟩ := check_ex x y z
  obtain ⟨q, hq⟩ := within_ex n 0 (IntKind.wrap IntKind.i64 (m - 1))
  simp only [fnDq26, fnq26, h, hq, bindO]
  rcases hr with rfl | rfl
  · cases q <;> simp
  · simp
theorem of_ex (x y z : Int) : ∃ y', fnDq27 (x, y, z) = some y' := by
  obtain ⟨r, h, hr⟩ := check_ex x y z
  simp only [fnDq27, fnq27, h, bindO]
  rcases hr with rfl | rfl
  · exact ⟨_, rfl⟩
  · exact ⟨_, rfl⟩
theorem table_ex (x y z n : Int) : ∃ a k e, fnDq25 (x, y, z, n) = some (a, k, e) ∧ (e = 0 ∨ e = 3) := by
  obtain ⟨r, h, hr⟩ := checked_ex x y z n x
  obtain ⟨⟨o1, o2, o3, o4, o5, o6⟩, ho⟩ := of_ex x y z
  simp only [fnDq25, fnq25, h, ho, bindO, unP]
  rcases hr with rfl | rfl
  · exact ⟨_, _, _, rfl, .inl rfl⟩
  · exact ⟨_, _, _, rfl, .inr rfl⟩
theorem read_eq (a : Int) : fnDq87 a = some () := rfl
theorem TableNone_true (x y z n v w s : Int) : fnDq21 (x, y, z, n, v, w, s) = some true := by
  obtain ⟨a, k, e, he, hr⟩ := table_ex x y z n
  have hw : fnDlaw18_works () = some true := rfl
  rcases hr with rfl | rfl
  · simp only [fnDq21, fnq21, fnDq84, fnq84, fnDq86, fnq86, he, hw, read_eq, bindO, unP,
      nodeDq21_n0, nodeq21_n0, nodeDq21_n1, nodeq21_n1]
    rfl
  · simp only [fnDq21, fnq21, fnDq84, fnq84, fnDq86, fnq86, he, hw, bindO, unP,
      nodeDq21_n0, nodeq21_n0, nodeDq21_n1, nodeq21_n1]
    rfl
end Go.Proofs.R7T

/- What the functions that SuperPutsCardSaid reaches compute: part 3. -/
import Derived.Test.YtjgghofdajambaaGreatDoorOwnSuperPutsCardSaid2
set_option linter.unusedVariables false
set_option linter.unusedSimpArgs false
namespace Go.Proofs.R7
open Go Go.AE
set_option maxRecDepth 100000
--@ loghead_Newer
noncomputable def envq30 : Env := [(216,.pure Fq28)]
theorem envq30Ok : EnvOk Tryz.prog envq30 := EnvOk.cons Fq28_ok (EnvOk.nil)
noncomputable def bq30 : Code := Tryz.f178.body.getD .skip
noncomputable def Lq30_n2 : Code := codeAt [1,1,1,0,1,0,0,1,1,0,0,1,1,0] bq30
noncomputable def annLq30_n2 : Ann := .none
theorem annLq30_n2_ok : AnnOk Tryz.prog 49 Lq30_n2 annLq30_n2 := (annOk_none _ _ _)
abbrev Iq30_n2 := (Bool) × (Int) × (Int) × (Int) × (Int) × (Int) × (Int) × (Int) × (Int) × (Int) × (List (List UInt8))
abbrev Yq30_n2 := (Bool)
def Sq30_n2 : Iq30_n2 → St := fun (t7,t11,t15,t16,o1_0,o1_1,o1_2,o2_0,o2_1,o2_2,o3) => { env := [(4,.ptr 0 0),(6,.ptr 1 0),(7,.bool t7),(10,.ptr 2 0),(11,.int .i64 t11),(14,.own 3),(15,.int .i64 t15),(16,.int .i64 t16)],stk := [[]],H := [.cells [.int .i64 (0),.int .i64 (0),.int .i64 (0)],.cells [.int .i64 o1_0,.int .i64 o1_1,.int .i64 o1_2],.cells [.int .i64 o2_0,.int .i64 o2_1,.int .i64 o2_2],.arr .str o3],blk := 729089 }
def decPq30_n2 (s : St) : Option {x : Iq30_n2 // s = Sq30_n2 x} := match s with
  | { env := [(4,.ptr 0 0),(6,.ptr 1 0),(7,.bool t7),(10,.ptr 2 0),(11,.int .i64 t11),(14,.own 3),(15,.int .i64 t15),(16,.int .i64 t16)],stk := [[]],H := [.cells [.int .i64 r4,.int .i64 r5,.int .i64 r6],.cells [.int .i64 o1_0,.int .i64 o1_1,.int .i64 o1_2],.cells [.int .i64 o2_0,.int .i64 o2_1,.int .i64 o2_2],.arr .str o3],blk := 729089 } => if h4 : r4 = 0 then if h5 : r5 = 0 then if h6 : r6 = 0 then some ⟨(t7,t11,t15,t16,o1_0,o1_1,o1_2,o2_0,o2_1,o2_2,o3),by subst h4 h5 h6; rfl⟩ else none else none else none
  | _ => none
def decq30_n2 (s : St) : Option Iq30_n2 := pk (decPq30_n2 s)
theorem decq30_n2_ok (s : St) (x : Iq30_n2) (h : decq30_n2 s = some x) : s = Sq30_n2 x := pk_ok (o := decPq30_n2 s) h
def outq30_n2 : Iq30_n2 → (Ex → St → Ans) → Yq30_n2 → Ans := fun (t7,t11,t15,t16,o1_0,o1_1,o1_2,o2_0,o2_1,o2_2,o3) K => fun t42_y => K (Ex.norm) { env := [(4,.ptr 0 0),(6,.ptr 1 0),(7,.bool t7),(10,.ptr 2 0),(14,.own 3),(15,.int .i64 t15),(16,.int .i64 t16),(42,.bool t42_y)],stk := [[]],H := [.cells [.int .i64 (0),.int .i64 (0),.int .i64 (0)],.cells [.int .i64 o1_0,.int .i64 o1_1,.int .i64 o1_2],.cells [.int .i64 o2_0,.int .i64 o2_1,.int .i64 o2_2],.arr .str o3],blk := 729089 }
def nodeq30_n2 {β : Type} : Iq30_n2 → (Yq30_n2 → Option β) → Option β := fun (t7,t11,t15,t16,o1_0,o1_1,o1_2,o2_0,o2_1,o2_2,o3) exit => (bif t11 == (0 : Int) then (bif !t7 then (exit (true)) else (bif !(o2_0 == o1_0 && (o2_1 == o1_1 && (o2_2 == o1_2 && true))) then (exit (decide (o2_0 > o1_0))) else (exit (false)))) else (exit (false)))
def nodeDq30_n2 (i : Iq30_n2) : Option Yq30_n2 := nodeq30_n2 i some
theorem nodeq30_n2_nat (i : Iq30_n2) (k : Yq30_n2 → Ans) : nodeq30_n2 i k = bindO (nodeDq30_n2 i) k := by
  obtain ⟨t7,t11,t15,t16,o1_0,o1_1,o1_2,o2_0,o2_1,o2_2,o3⟩ := i
  simp only [nodeDq30_n2,nodeq30_n2,bindO_cond,bindO_assoc,bindO_none,bindO_pure,bindO_elim,bindO_unP,bindO_empty]
theorem nodeq30_n2_ok (i : Iq30_n2) (K : Ex → St → Ans) : codeI Tryz.tab envq30 noHint (codeD Tryz.tab envq30 noHint 0 64) 70 49 annLq30_n2 Lq30_n2 (weakP 0 (exk [4,6,7,10,14,15,16,42] [4,5] []) K) (Sq30_n2 i) = nodeq30_n2 i (outq30_n2 i K) := by kernel_rfl
theorem GNq30_n2_ok : CSum Tryz.prog 49 Lq30_n2 (sumN decq30_n2 nodeDq30_n2 outq30_n2) := csum_node mixed tabOk envq30Ok 0 (exk [4,6,7,10,14,15,16,42] [4,5] []) annLq30_n2_ok decq30_n2_ok nodeq30_n2_ok nodeq30_n2_nat
noncomputable def Gq30_n2 : (Ex → St → Ans) → St → Ans := (sumN decq30_n2 nodeDq30_n2 outq30_n2)
theorem Gq30_n2_ok : CSum Tryz.prog 49 Lq30_n2 Gq30_n2 := GNq30_n2_ok
noncomputable def Lq30_n1 : Code := codeAt [1,1,1,0,1,0,0,1,1,0] bq30
noncomputable def annLq30_n1 : Ann := (.block (.seq .none (.seq .none (.seq (.cut 0 [4,6,7,10,11,14,15,16] Gq30_n2) .none))))
theorem annLq30_n1_ok : AnnOk Tryz.prog 49 Lq30_n1 annLq30_n1 := ⟨(annOk_none _ _ _),⟨(annOk_none _ _ _),⟨Gq30_n2_ok,(annOk_none _ _ _)⟩⟩⟩
abbrev Iq30_n1 := (Bool) × (Int) × (Int) × (Int) × (Int) × (Int) × (List (List UInt8))
abbrev Yq30_n1 := (Bool) × (Int) × (Int) × (Int)
def Sq30_n1 : Iq30_n1 → St := fun (t7,t15,t16,o1_0,o1_1,o1_2,o2) => { env := [(4,.ptr 0 0),(6,.ptr 1 0),(7,.bool t7),(14,.own 2),(15,.int .i64 t15),(16,.int .i64 t16)],stk := [[]],H := [.cells [.int .i64 (0),.int .i64 (0),.int .i64 (0)],.cells [.int .i64 o1_0,.int .i64 o1_1,.int .i64 o1_2],.arr .str o2],blk := 729088 }
def decPq30_n1 (s : St) : Option {x : Iq30_n1 // s = Sq30_n1 x} := match s with
  | { env := [(4,.ptr 0 0),(6,.ptr 1 0),(7,.bool t7),(14,.own 2),(15,.int .i64 t15),(16,.int .i64 t16)],stk := [[]],H := [.cells [.int .i64 r3,.int .i64 r4,.int .i64 r5],.cells [.int .i64 o1_0,.int .i64 o1_1,.int .i64 o1_2],.arr .str o2],blk := 729088 } => if h3 : r3 = 0 then if h4 : r4 = 0 then if h5 : r5 = 0 then some ⟨(t7,t15,t16,o1_0,o1_1,o1_2,o2),by subst h3 h4 h5; rfl⟩ else none else none else none
  | _ => none
def decq30_n1 (s : St) : Option Iq30_n1 := pk (decPq30_n1 s)
theorem decq30_n1_ok (s : St) (x : Iq30_n1) (h : decq30_n1 s = some x) : s = Sq30_n1 x := pk_ok (o := decPq30_n1 s) h
def outq30_n1 : Iq30_n1 → (Ex → St → Ans) → Yq30_n1 → Ans := fun (t7,t15,t16,o1_0,o1_1,o1_2,o2) K => unP fun t7_y => unP fun o1_0_y => unP fun o1_1_y o1_2_y => K (Ex.norm) { env := [(4,.ptr 0 0),(6,.ptr 1 0),(7,.bool t7_y),(14,.own 2),(15,.int .i64 t15),(16,.int .i64 t16)],stk := [[]],H := [.cells [.int .i64 (0),.int .i64 (0),.int .i64 (0)],.cells [.int .i64 o1_0_y,.int .i64 o1_1_y,.int .i64 o1_2_y],.arr .str o2],blk := 729089 }
def nodeq30_n1 {β : Type} : Iq30_n1 → (Yq30_n1 → Option β) → Option β := fun (t7,t15,t16,o1_0,o1_1,o1_2,o2) exit => (bif inR t16 (List.length o2) then (bindO (o2[Int.toNat t16]?) fun x => (bindO (fnDq28 (x)) (unP fun r_0_0 => unP fun r_0_1 => unP fun r_0_2 r_1 => (bindO (nodeDq30_n2 (t7,r_1,t15,t16,o1_0,o1_1,o1_2,r_0_0,r_0_1,r_0_2,o2)) fun t42 => (bif t42 then (exit (true,r_0_0,r_0_1,r_0_2)) else (exit (t7,o1_0,o1_1,o1_2))))))) else none)
def nodeDq30_n1 (i : Iq30_n1) : Option Yq30_n1 := nodeq30_n1 i some
theorem nodeq30_n1_nat (i : Iq30_n1) (k : Yq30_n1 → Ans) : nodeq30_n1 i k = bindO (nodeDq30_n1 i) k := by
  obtain ⟨t7,t15,t16,o1_0,o1_1,o1_2,o2⟩ := i
  simp only [nodeDq30_n1,nodeq30_n1,bindO_cond,bindO_assoc,bindO_none,bindO_pure,bindO_elim,bindO_unP,bindO_empty]
theorem nodeq30_n1_ok (i : Iq30_n1) (K : Ex → St → Ans) : codeI Tryz.tab envq30 noHint (codeD Tryz.tab envq30 noHint 0 64) 70 49 annLq30_n1 Lq30_n1 (weakP 0 (exk [4,6,7,14,15,16] [4,5] []) K) (Sq30_n1 i) = nodeq30_n1 i (outq30_n1 i K) := by kernel_rfl
theorem GNq30_n1_ok : CSum Tryz.prog 49 Lq30_n1 (sumN decq30_n1 nodeDq30_n1 outq30_n1) := csum_node mixed tabOk envq30Ok 0 (exk [4,6,7,14,15,16] [4,5] []) annLq30_n1_ok decq30_n1_ok nodeq30_n1_ok nodeq30_n1_nat
noncomputable def Gq30_n1 : (Ex → St → Ans) → St → Ans := (sumN decq30_n1 nodeDq30_n1 outq30_n1)
theorem Gq30_n1_ok : CSum Tryz.prog 49 Lq30_n1 Gq30_n1 := GNq30_n1_ok
noncomputable def Lq30_n0 : Code := codeAt [1,1,1,0,1,0,0] bq30
noncomputable def annLq30_n0 : Ann := .at 0 [4,6,7,14,15,16] (.loop (.seq .none (.seq .none (.seq (.cut 0 [4,6,7,14,15,16] Gq30_n1) .none))))
theorem annLq30_n0_ok : AnnOk Tryz.prog 49 (.loop Lq30_n0) annLq30_n0 := annOk_at ⟨(annOk_none _ _ _),⟨(annOk_none _ _ _),⟨Gq30_n1_ok,(annOk_none _ _ _)⟩⟩⟩
abbrev Iq30_n0 := (Int) × (List (List UInt8))
abbrev Yq30_n0 := (Bool) × (Int) × (Int) × (Int)
abbrev Vq30_n0 := (Bool) × (Int) × (Int) × (Int) × (Int)
def Sq30_n0 : Iq30_n0 → Vq30_n0 → St := fun (t15,o2) (t7,t16,o1_0,o1_1,o1_2) => { env := [(4,.ptr 0 0),(6,.ptr 1 0),(7,.bool t7),(14,.own 2),(15,.int .i64 t15),(16,.int .i64 t16)],stk := [[]],H := [.cells [.int .i64 (0),.int .i64 (0),.int .i64 (0)],.cells [.int .i64 o1_0,.int .i64 o1_1,.int .i64 o1_2],.arr .str o2],blk := 729088 }
def decPq30_n0 (s : St) : Option {x : Iq30_n0 × Vq30_n0 // s = Sq30_n0 x.1 x.2} := match s with
  | { env := [(4,.ptr 0 0),(6,.ptr 1 0),(7,.bool t7),(14,.own 2),(15,.int .i64 t15),(16,.int .i64 t16)],stk := [[]],H := [.cells [.int .i64 r3,.int .i64 r4,.int .i64 r5],.cells [.int .i64 o1_0,.int .i64 o1_1,.int .i64 o1_2],.arr .str o2],blk := 729088 } => if h3 : r3 = 0 then if h4 : r4 = 0 then if h5 : r5 = 0 then some ⟨((t15,o2),(t7,t16,o1_0,o1_1,o1_2)),by subst h3 h4 h5; rfl⟩ else none else none else none
  | _ => none
def decq30_n0 (s : St) : Option (Iq30_n0 × Vq30_n0) := pk (decPq30_n0 s)
theorem decq30_n0_ok (s : St) (x : Iq30_n0 × Vq30_n0) (h : decq30_n0 s = some x) : s = Sq30_n0 x.1 x.2 := pk_ok (o := decPq30_n0 s) h
def outq30_n0 : Iq30_n0 → (Ex → St → Ans) → Yq30_n0 → Ans := fun (t15,o2) K => unP fun t7_y => unP fun o1_0_y => unP fun o1_1_y o1_2_y => K (Ex.exit 0) { env := [(4,.ptr 0 0),(6,.ptr 1 0),(7,.bool t7_y)],stk := [[]],H := [.cells [.int .i64 (0),.int .i64 (0),.int .i64 (0)],.cells [.int .i64 o1_0_y,.int .i64 o1_1_y,.int .i64 o1_2_y]],blk := 729088 }
def stepq30_n0 {β : Type} : Iq30_n0 → Vq30_n0 → (Vq30_n0 → Option β) → (Yq30_n0 → Option β) → Option β := fun (t15,o2) (t7,t16,o1_0,o1_1,o1_2) next exit => (bif decide (t16 < t15) then (bindO (nodeDq30_n1 (t7,t15,t16,o1_0,o1_1,o1_2,o2)) (unP fun t7_2 => unP fun o1_0_2 => unP fun o1_1_2 o1_2_2 => (next (t7_2,IntKind.wrap .i64 (t16 + (1 : Int)),o1_0_2,o1_1_2,o1_2_2)))) else (exit (t7,o1_0,o1_1,o1_2)))
def stepDq30_n0 (i : Iq30_n0) (v : Vq30_n0) : Option (Vq30_n0 ⊕ Yq30_n0) := stepq30_n0 i v (fun v => some (.inl v)) (fun y => some (.inr y))
theorem stepq30_n0_nat (i : Iq30_n0) (v : Vq30_n0) (next : Vq30_n0 → Ans) (exit : Yq30_n0 → Ans) : stepq30_n0 i v next exit = bindO (stepDq30_n0 i v) (Sum.elim next exit) := by
  obtain ⟨t15,o2⟩ := i
  obtain ⟨t7,t16,o1_0,o1_1,o1_2⟩ := v
  simp only [stepDq30_n0,stepq30_n0,bindO_cond,bindO_assoc,bindO_none,bindO_pure,bindO_elim,bindO_unP,bindO_empty,Sum.elim_inl,Sum.elim_inr]
theorem stepq30_n0_ok (n : Nat) (i : Iq30_n0) (v : Vq30_n0) (K : Ex → St → Ans) : codeI Tryz.tab envq30 noHint (codeD Tryz.tab envq30 noHint 0 64) (n+1) 49 annLq30_n0 (.loop Lq30_n0) (weakP 0 (exk [4,6,7] [4,5] [(0,[4,6,7])]) K) (Sq30_n0 i v) = stepq30_n0 i v (fun v' => codeI Tryz.tab envq30 noHint (codeD Tryz.tab envq30 noHint 0 64) n 49 annLq30_n0 (.loop Lq30_n0) (weakP 0 (exk [4,6,7] [4,5] [(0,[4,6,7])]) K) (Sq30_n0 i v')) (fun y => outq30_n0 i K y) := by kernel_rfl
theorem GNq30_n0_ok : CSum Tryz.prog 49 (.loop Lq30_n0) (sumL decq30_n0 stepDq30_n0 outq30_n0) := csum_loop mixed tabOk envq30Ok 0 (exk [4,6,7] [4,5] [(0,[4,6,7])]) annLq30_n0_ok decq30_n0_ok stepq30_n0_ok stepq30_n0_nat
noncomputable def Gq30_n0 : (Ex → St → Ans) → St → Ans := (sumL decq30_n0 stepDq30_n0 outq30_n0)
theorem Gq30_n0_ok : CSum Tryz.prog 49 (.loop Lq30_n0) Gq30_n0 := GNq30_n0_ok
noncomputable def annq30 : Ann := (.seq .none (.seq .none (.seq .none (.seq (.seq .none (.block (.cut 0 [4,6,7,14,15,16] Gq30_n0))) .none))))
theorem annq30_ok : AnnOk Tryz.prog 49 bq30 annq30 := ⟨(annOk_none _ _ _),⟨(annOk_none _ _ _),⟨(annOk_none _ _ _),⟨⟨(annOk_none _ _ _),Gq30_n0_ok⟩,(annOk_none _ _ _)⟩⟩⟩⟩
abbrev Aq30 := (List UInt8) × (List UInt8)
abbrev Yq30 := (Int) × (Int) × (Int) × (Int)
def fnq30 {β : Type} : Aq30 → (Yq30 → Option β) → Option β := fun (a0,a1) exit => (bindO (loopD (stepDq30_n0 ((↑(List.length [a0,a1]) : Int),[a0,a1])) FUEL (false,(0 : Int),(0 : Int),(0 : Int),(0 : Int))) (unP fun t7 => unP fun o1_0 => unP fun o1_1 o1_2 => (bif !t7 then (exit (o1_0,o1_1,o1_2,(8 : Int))) else (exit (o1_0,o1_1,o1_2,(0 : Int))))))
def fnDq30 (a : Aq30) : Option Yq30 := fnq30 a some
theorem fnq30_nat (a : Aq30) (k : Yq30 → Ans) : fnq30 a k = bindO (fnDq30 a) k := by
  obtain ⟨a0,a1⟩ := a
  simp only [fnDq30,fnq30,bindO_cond,bindO_assoc,bindO_none,bindO_pure,bindO_elim,bindO_unP,bindO_empty]
def argsq30 : Aq30 → List AV := fun (a0,a1) => [.str a0,.str a1]
def decPAq30 (l : List AV) : Option {a : Aq30 // l = argsq30 a} := match l with
  | [.str a0,.str a1] => some ⟨(a0,a1),rfl⟩
  | _ => none
def decAq30 (l : List AV) : Option Aq30 := pk (decPAq30 l)
theorem decAq30_ok (l : List AV) (a : Aq30) (h : decAq30 l = some a) : l = argsq30 a := pk_ok (o := decPAq30 l) h
def rendq30 : Aq30 → Yq30 → AV := fun (a0,a1) => unP fun r_0_0_y => unP fun r_0_1_y => unP fun r_0_2_y r_1_y => .tup [.agg [.int .i64 r_0_0_y,.int .i64 r_0_1_y,.int .i64 r_0_2_y],.int .i64 r_1_y]
theorem rendq30_ok : ∀ (a : Aq30) (y : Yq30),(rendq30 a y).closed1 = true := by
  rintro ⟨a0,a1⟩ y <;> first | rfl | exact Empty.elim y
theorem fnq30_ok (a : Aq30) : fnE Tryz.tab envq30 noHint 0 70 178 Tryz.f178.ntmps Tryz.f178.results.toList annq30 bq30 (argsq30 a) [] (fun v _ => some (v,[])) = fnq30 a (fun y => some (rendq30 a y,[])) := by kernel_rfl
def vFq30 (a : Aq30) (K : AV → Ans) : Ans := bindO (fnDq30 a) fun y => K (rendq30 a y)
def Fq30 : List AV → (AV → Ans) → Ans := fun l K => bindO (decAq30 l) fun a => vFq30 a K
theorem Fq30_ok : PureOk Tryz.prog 178 Fq30 := pure_mkD (hint := noHint) (d := 0) (n := 70) mixed tabOk envq30Ok Tryz.func178 (bodySome (by kernel_rfl)) (by decide +kernel) annq30_ok decAq30_ok fnq30_ok fnq30_nat rendq30_ok
--@ region_Region_Place
noncomputable def envq53 : Env := []
theorem envq53Ok : EnvOk Tryz.prog envq53 := EnvOk.nil
noncomputable def bq53 : Code := Tryz.f209.body.getD .skip
noncomputable def Lq53_n1 : Code := codeAt [1,0,0,1,1,0] bq53
noncomputable def annLq53_n1 : Ann := .none
theorem annLq53_n1_ok : AnnOk Tryz.prog 26 Lq53_n1 annLq53_n1 := (annOk_none _ _ _)
abbrev Iq53_n1 := (Int) × (Int) × (Int) × (Int) × (Int) × (Bool) × (List (List UInt8)) × (List (Int × List UInt8)) × (List (Int × List UInt8)) × (List Int)
abbrev Yq53_n1 := (Bool)
def Sq53_n1 : Iq53_n1 → St := fun (t1,o0_1,o0_2,o1_3,o1_5,o1_6,o2,o3,o4,o5) => { env := [(0,.ptr 0 0),(1,.int .i64 t1)],stk := [[(0,.ptr 0 0),(1,.ptr 1 0),(3,.map 3)]],H := [.cells [.ptr 1 0,.int .i64 o0_1,.int .i64 o0_2],.cells [.own 2,.map 3,.own 4,.int .i64 o1_3,.own 5,.int .i64 o1_5,.bool o1_6],.arr .str o2,.mp .i64 .str o3,.arr (.st (.pair (.int .i64) .str)) o4,.arr (.int .i64) o5],blk := 856064 }
def decPq53_n1 (s : St) : Option {x : Iq53_n1 // s = Sq53_n1 x} := match s with
  | { env := [(0,.ptr 0 0),(1,.int .i64 t1)],stk := [[(0,.ptr 0 0),(1,.ptr 1 0),(3,.map 3)]],H := [.cells [.ptr 1 0,.int .i64 o0_1,.int .i64 o0_2],.cells [.own 2,.map 3,.own 4,.int .i64 o1_3,.own 5,.int .i64 o1_5,.bool o1_6],.arr .str o2,.mp .i64 .str o3,.arr (.st (.pair (.int .i64) .str)) o4,.arr (.int .i64) o5],blk := 856064 } => some ⟨(t1,o0_1,o0_2,o1_3,o1_5,o1_6,o2,o3,o4,o5),rfl⟩
  | _ => none
def decq53_n1 (s : St) : Option Iq53_n1 := pk (decPq53_n1 s)
theorem decq53_n1_ok (s : St) (x : Iq53_n1) (h : decq53_n1 s = some x) : s = Sq53_n1 x := pk_ok (o := decPq53_n1 s) h
def outq53_n1 : Iq53_n1 → (Ex → St → Ans) → Yq53_n1 → Ans := fun (t1,o0_1,o0_2,o1_3,o1_5,o1_6,o2,o3,o4,o5) K => fun t9_y => K (Ex.norm) { env := [(0,.ptr 0 0),(1,.int .i64 t1),(9,.bool t9_y)],stk := [[(0,.ptr 0 0),(1,.ptr 1 0),(3,.map 3)]],H := [.cells [.ptr 1 0,.int .i64 o0_1,.int .i64 o0_2],.cells [.own 2,.map 3,.own 4,.int .i64 o1_3,.own 5,.int .i64 o1_5,.bool o1_6],.arr .str o2,.mp .i64 .str o3,.arr (.st (.pair (.int .i64) .str)) o4,.arr (.int .i64) o5],blk := 856064 }
def nodeq53_n1 {β : Type} : Iq53_n1 → (Yq53_n1 → Option β) → Option β := fun (t1,o0_1,o0_2,o1_3,o1_5,o1_6,o2,o3,o4,o5) exit => (bif decide (t1 < (0 : Int)) then (exit (true)) else (exit (decide (t1 ≥ o0_2))))
def nodeDq53_n1 (i : Iq53_n1) : Option Yq53_n1 := nodeq53_n1 i some
theorem nodeq53_n1_nat (i : Iq53_n1) (k : Yq53_n1 → Ans) : nodeq53_n1 i k = bindO (nodeDq53_n1 i) k := by
  obtain ⟨t1,o0_1,o0_2,o1_3,o1_5,o1_6,o2,o3,o4,o5⟩ := i
  simp only [nodeDq53_n1,nodeq53_n1,bindO_cond,bindO_assoc,bindO_none,bindO_pure,bindO_elim,bindO_unP,bindO_empty]
theorem nodeq53_n1_ok (i : Iq53_n1) (K : Ex → St → Ans) : codeI Tryz.tab envq53 noHint (codeD Tryz.tab envq53 noHint 0 64) 70 26 annLq53_n1 Lq53_n1 (weakP 6 (exk [0,1,9] [4,5] []) K) (Sq53_n1 i) = nodeq53_n1 i (outq53_n1 i K) := by kernel_rfl
theorem GNq53_n1_ok : CSum Tryz.prog 26 Lq53_n1 (sumN decq53_n1 nodeDq53_n1 outq53_n1) := csum_node mixed tabOk envq53Ok 6 (exk [0,1,9] [4,5] []) annLq53_n1_ok decq53_n1_ok nodeq53_n1_ok nodeq53_n1_nat
noncomputable def Gq53_n1 : (Ex → St → Ans) → St → Ans := (sumN decq53_n1 nodeDq53_n1 outq53_n1)
theorem Gq53_n1_ok : CSum Tryz.prog 26 Lq53_n1 Gq53_n1 := GNq53_n1_ok
noncomputable def Lq53_n0 : Code := codeAt [1,0] bq53
noncomputable def annLq53_n0 : Ann := (.block (.seq .none (.cond .none (.seq (.cut 6 [0,1] Gq53_n1) .none))))
theorem annLq53_n0_ok : AnnOk Tryz.prog 26 Lq53_n0 annLq53_n0 := ⟨(annOk_none _ _ _),⟨(annOk_none _ _ _),⟨Gq53_n1_ok,(annOk_none _ _ _)⟩⟩⟩
abbrev Iq53_n0 := (Int) × (Int) × (Int) × (Int) × (Int) × (Bool) × (List (List UInt8)) × (List (Int × List UInt8)) × (List (Int × List UInt8)) × (List Int)
abbrev Yq53_n0 := (Unit) ⊕ (Unit)
def Sq53_n0 : Iq53_n0 → St := fun (t1,o0_1,o0_2,o1_3,o1_5,o1_6,o2,o3,o4,o5) => { env := [(0,.ptr 0 0),(1,.int .i64 t1)],stk := [[(0,.ptr 0 0),(1,.ptr 1 0),(3,.map 3)]],H := [.cells [.ptr 1 0,.int .i64 o0_1,.int .i64 o0_2],.cells [.own 2,.map 3,.own 4,.int .i64 o1_3,.own 5,.int .i64 o1_5,.bool o1_6],.arr .str o2,.mp .i64 .str o3,.arr (.st (.pair (.int .i64) .str)) o4,.arr (.int .i64) o5],blk := 856064 }
def decPq53_n0 (s : St) : Option {x : Iq53_n0 // s = Sq53_n0 x} := match s with
  | { env := [(0,.ptr 0 0),(1,.int .i64 t1)],stk := [[(0,.ptr 0 0),(1,.ptr 1 0),(3,.map 3)]],H := [.cells [.ptr 1 0,.int .i64 o0_1,.int .i64 o0_2],.cells [.own 2,.map 3,.own 4,.int .i64 o1_3,.own 5,.int .i64 o1_5,.bool o1_6],.arr .str o2,.mp .i64 .str o3,.arr (.st (.pair (.int .i64) .str)) o4,.arr (.int .i64) o5],blk := 856064 } => some ⟨(t1,o0_1,o0_2,o1_3,o1_5,o1_6,o2,o3,o4,o5),rfl⟩
  | _ => none
def decq53_n0 (s : St) : Option Iq53_n0 := pk (decPq53_n0 s)
theorem decq53_n0_ok (s : St) (x : Iq53_n0) (h : decq53_n0 s = some x) : s = Sq53_n0 x := pk_ok (o := decPq53_n0 s) h
def outq53_n0 : Iq53_n0 → (Ex → St → Ans) → Yq53_n0 → Ans := fun (t1,o0_1,o0_2,o1_3,o1_5,o1_6,o2,o3,o4,o5) K => (Sum.elim (fun _ => K (Ex.ret) { env := [(4,.int .i64 (0)),(5,.int .i64 (3))],stk := [[(0,.ptr 0 0),(1,.ptr 1 0),(3,.map 3)]],H := [.cells [.ptr 1 0,.int .i64 o0_1,.int .i64 o0_2],.cells [.own 2,.map 3,.own 4,.int .i64 o1_3,.own 5,.int .i64 o1_5,.bool o1_6],.arr .str o2,.mp .i64 .str o3,.arr (.st (.pair (.int .i64) .str)) o4,.arr (.int .i64) o5],blk := 856064 }) (fun _ => K (Ex.norm) { env := [(0,.ptr 0 0),(1,.int .i64 t1)],stk := [[(0,.ptr 0 0),(1,.ptr 1 0),(3,.map 3)]],H := [.cells [.ptr 1 0,.int .i64 o0_1,.int .i64 o0_2],.cells [.own 2,.map 3,.own 4,.int .i64 o1_3,.own 5,.int .i64 o1_5,.bool o1_6],.arr .str o2,.mp .i64 .str o3,.arr (.st (.pair (.int .i64) .str)) o4,.arr (.int .i64) o5],blk := 856064 }))
def nodeq53_n0 {β : Type} : Iq53_n0 → (Yq53_n0 → Option β) → Option β := fun (t1,o0_1,o0_2,o1_3,o1_5,o1_6,o2,o3,o4,o5) exit => (bindO (nodeDq53_n1 (t1,o0_1,o0_2,o1_3,o1_5,o1_6,o2,o3,o4,o5)) fun t9 => (bif t9 then (exit (Sum.inl ())) else (exit (Sum.inr ()))))
def nodeDq53_n0 (i : Iq53_n0) : Option Yq53_n0 := nodeq53_n0 i some
theorem nodeq53_n0_nat (i : Iq53_n0) (k : Yq53_n0 → Ans) : nodeq53_n0 i k = bindO (nodeDq53_n0 i) k := by
  obtain ⟨t1,o0_1,o0_2,o1_3,o1_5,o1_6,o2,o3,o4,o5⟩ := i
  simp only [nodeDq53_n0,nodeq53_n0,bindO_cond,bindO_assoc,bindO_none,bindO_pure,bindO_elim,bindO_unP,bindO_empty]
theorem nodeq53_n0_ok (i : Iq53_n0) (K : Ex → St → Ans) : codeI Tryz.tab envq53 noHint (codeD Tryz.tab envq53 noHint 0 64) 70 26 annLq53_n0 Lq53_n0 (weakP 6 (exk [0,1] [4,5] []) K) (Sq53_n0 i) = nodeq53_n0 i (outq53_n0 i K) := by kernel_rfl
theorem GNq53_n0_ok : CSum Tryz.prog 26 Lq53_n0 (sumN decq53_n0 nodeDq53_n0 outq53_n0) := csum_node mixed tabOk envq53Ok 6 (exk [0,1] [4,5] []) annLq53_n0_ok decq53_n0_ok nodeq53_n0_ok nodeq53_n0_nat
noncomputable def Gq53_n0 : (Ex → St → Ans) → St → Ans := (sumN decq53_n0 nodeDq53_n0 outq53_n0)
theorem Gq53_n0_ok : CSum Tryz.prog 26 Lq53_n0 Gq53_n0 := GNq53_n0_ok
noncomputable def annq53 : Ann := (.seq .none (.seq (.cut 6 [0,1] Gq53_n0) .none))
theorem annq53_ok : AnnOk Tryz.prog 26 bq53 annq53 := ⟨(annOk_none _ _ _),⟨Gq53_n0_ok,(annOk_none _ _ _)⟩⟩
abbrev Aq53 := (Int) × (Int) × (Int) × (Int) × (Int) × (Bool) × (List (List UInt8)) × (List (Int × List UInt8)) × (List (Int × List UInt8)) × (List Int)
abbrev Yq53 := (Int) × (Int)
def fnq53 {β : Type} : Aq53 → (Yq53 → Option β) → Option β := fun (a1,o0_1,o0_2,o1_3,o1_5,o1_6,o2,o3,o4,o5) exit => (bindO (nodeDq53_n0 (a1,o0_1,o0_2,o1_3,o1_5,o1_6,o2,o3,o4,o5)) (Sum.elim (fun _ => (exit ((0 : Int),(3 : Int)))) (fun _ => (exit (IntKind.wrap .i64 (o0_1 + a1),(0 : Int))))))
def fnDq53 (a : Aq53) : Option Yq53 := fnq53 a some
theorem fnq53_nat (a : Aq53) (k : Yq53 → Ans) : fnq53 a k = bindO (fnDq53 a) k := by
  obtain ⟨a1,o0_1,o0_2,o1_3,o1_5,o1_6,o2,o3,o4,o5⟩ := a
  simp only [fnDq53,fnq53,bindO_cond,bindO_assoc,bindO_none,bindO_pure,bindO_elim,bindO_unP,bindO_empty]
def argsq53 : Aq53 → List AV × List AE.Obj := fun (a1,o0_1,o0_2,o1_3,o1_5,o1_6,o2,o3,o4,o5) => ([.ptr 0 0,.int .i64 a1],[.cells [.ptr 1 0,.int .i64 o0_1,.int .i64 o0_2],.cells [.own 2,.map 3,.own 4,.int .i64 o1_3,.own 5,.int .i64 o1_5,.bool o1_6],.arr .str o2,.mp .i64 .str o3,.arr (.st (.pair (.int .i64) .str)) o4,.arr (.int .i64) o5])
def decPAq53 (l : List AV) (H : List AE.Obj) : Option {a : Aq53 // (l,H) = argsq53 a} := match l,H with
  | [.ptr 0 0,.int .i64 a1],[.cells [.ptr 1 0,.int .i64 o0_1,.int .i64 o0_2],.cells [.own 2,.map 3,.own 4,.int .i64 o1_3,.own 5,.int .i64 o1_5,.bool o1_6],.arr .str o2,.mp .i64 .str o3,.arr (.st (.pair (.int .i64) .str)) o4,.arr (.int .i64) o5] => some ⟨(a1,o0_1,o0_2,o1_3,o1_5,o1_6,o2,o3,o4,o5),rfl⟩
  | _,_ => none
def decAq53 (l : List AV) (H : List AE.Obj) : Option Aq53 := pk (decPAq53 l H)
theorem decAq53_ok (l : List AV) (H : List AE.Obj) (a : Aq53) (h : decAq53 l H = some a) : (l,H) = argsq53 a := pk_ok (o := decPAq53 l H) h
def outq53 : Aq53 → (AV → List AE.Obj → Ans) → Yq53 → Ans := fun (a1,o0_1,o0_2,o1_3,o1_5,o1_6,o2,o3,o4,o5) K => unP fun r_0_y r_1_y => K (.tup [.int .i64 r_0_y,.int .i64 r_1_y]) [.cells [.ptr 1 0,.int .i64 o0_1,.int .i64 o0_2],.cells [.own 2,.map 3,.own 4,.int .i64 o1_3,.own 5,.int .i64 o1_5,.bool o1_6],.arr .str o2,.mp .i64 .str o3,.arr (.st (.pair (.int .i64) .str)) o4,.arr (.int .i64) o5]
theorem fnq53_ok (a : Aq53) (K : AV → List AE.Obj → Ans) : fnE Tryz.tab envq53 noHint 0 70 209 Tryz.f209.ntmps Tryz.f209.results.toList annq53 bq53 (argsq53 a).1 (argsq53 a).2 K = fnq53 a (outq53 a K) := by kernel_rfl
def vFq53 (a : Aq53) (K : AV → List AE.Obj → Ans) : Ans := bindO (fnDq53 a) fun y => outq53 a K y
def Fq53 : List AV → List AE.Obj → (AV → List AE.Obj → Ans) → Ans := fun l H K => bindO (decAq53 l H) fun a => vFq53 a K
theorem Fq53_ok : FuncOk Tryz.prog 209 Fq53 := func_mkD (hint := noHint) (d := 0) (n := 70) mixed tabOk envq53Ok Tryz.func209 (bodySome (by kernel_rfl)) (by decide +kernel) annq53_ok decAq53_ok fnq53_ok fnq53_nat
--@ logrec_Size
noncomputable def envq37 : Env := [(129,.func Fq15),(130,.func Fq17),(131,.func Fq18)]
theorem envq37Ok : EnvOk Tryz.prog envq37 := EnvOk.cons Fq15_ok (EnvOk.cons Fq17_ok (EnvOk.cons Fq18_ok (EnvOk.nil)))
noncomputable def bq37 : Code := Tryz.f260.body.getD .skip
noncomputable def Lq37_n0 : Code := codeAt [1,1,1,1,0,0] bq37
noncomputable def annLq37_n0 : Ann := .none
theorem annLq37_n0_ok : AnnOk Tryz.prog 38 Lq37_n0 annLq37_n0 := (annOk_none _ _ _)
abbrev Iq37_n0 := (Int) × (List UInt8) × (Int) × (Int)
abbrev Yq37_n0 := (Bool)
def Sq37_n0 : Iq37_n0 → St := fun (t1,t7,t8,t9) => { env := [(1,.int .i64 t1),(7,.str t7),(8,.int .i64 t8),(9,.int .i64 t9)],stk := [[]],H := [],blk := 1064960 }
def decPq37_n0 (s : St) : Option {x : Iq37_n0 // s = Sq37_n0 x} := match s with
  | { env := [(1,.int .i64 t1),(7,.str t7),(8,.int .i64 t8),(9,.int .i64 t9)],stk := [[]],H := [],blk := 1064960 } => some ⟨(t1,t7,t8,t9),rfl⟩
  | _ => none
def decq37_n0 (s : St) : Option Iq37_n0 := pk (decPq37_n0 s)
theorem decq37_n0_ok (s : St) (x : Iq37_n0) (h : decq37_n0 s = some x) : s = Sq37_n0 x := pk_ok (o := decPq37_n0 s) h
def outq37_n0 : Iq37_n0 → (Ex → St → Ans) → Yq37_n0 → Ans := fun (t1,t7,t8,t9) K => fun t35_y => K (Ex.norm) { env := [(9,.int .i64 t9),(35,.bool t35_y)],stk := [[]],H := [],blk := 1064960 }
def nodeq37_n0 {β : Type} : Iq37_n0 → (Yq37_n0 → Option β) → Option β := fun (t1,t7,t8,t9) exit => (bif !t7 == [(82 : UInt8)] then (exit (true)) else (bif t8 != t1 then (exit (true)) else (bif decide (t9 < (1 : Int)) then (exit (true)) else (exit (decide (t9 > (16 : Int)))))))
def nodeDq37_n0 (i : Iq37_n0) : Option Yq37_n0 := nodeq37_n0 i some
theorem nodeq37_n0_nat (i : Iq37_n0) (k : Yq37_n0 → Ans) : nodeq37_n0 i k = bindO (nodeDq37_n0 i) k := by
  obtain ⟨t1,t7,t8,t9⟩ := i
  simp only [nodeDq37_n0,nodeq37_n0,bindO_cond,bindO_assoc,bindO_none,bindO_pure,bindO_elim,bindO_unP,bindO_empty]
theorem nodeq37_n0_ok (i : Iq37_n0) (K : Ex → St → Ans) : codeI Tryz.tab envq37 noHint (codeD Tryz.tab envq37 noHint 0 64) 70 38 annLq37_n0 Lq37_n0 (weakP 0 (exk [9,35] [4,5] []) K) (Sq37_n0 i) = nodeq37_n0 i (outq37_n0 i K) := by kernel_rfl
theorem GNq37_n0_ok : CSum Tryz.prog 38 Lq37_n0 (sumN decq37_n0 nodeDq37_n0 outq37_n0) := csum_node mixed tabOk envq37Ok 0 (exk [9,35] [4,5] []) annLq37_n0_ok decq37_n0_ok nodeq37_n0_ok nodeq37_n0_nat
noncomputable def Gq37_n0 : (Ex → St → Ans) → St → Ans := (sumN decq37_n0 nodeDq37_n0 outq37_n0)
theorem Gq37_n0_ok : CSum Tryz.prog 38 Lq37_n0 Gq37_n0 := GNq37_n0_ok
noncomputable def annq37 : Ann := (.seq .none (.seq .none (.seq .none (.seq .none (.seq (.seq (.cut 0 [1,7,8,9] Gq37_n0) .none) .none)))))
theorem annq37_ok : AnnOk Tryz.prog 38 bq37 annq37 := ⟨(annOk_none _ _ _),⟨(annOk_none _ _ _),⟨(annOk_none _ _ _),⟨(annOk_none _ _ _),⟨⟨Gq37_n0_ok,(annOk_none _ _ _)⟩,(annOk_none _ _ _)⟩⟩⟩⟩⟩
abbrev Aq37 := (List UInt8) × (Int)
abbrev Yq37 := (Int) × (Int)
def fnq37 {β : Type} : Aq37 → (Yq37 → Option β) → Option β := fun (a0,a1) exit => (bif (↑(List.length a0) : Int) != (64 : Int) then (exit ((0 : Int),(12 : Int))) else (bindO (fnDq15 (a0)) fun _ => (bindO (fnDq17 ((1 : Int),a0,(0 : Int))) (unP fun r => unP fun o0_0 o0_1 => (bindO (fnDq18 ((6 : Int),o0_0,o0_1)) (unP fun r_2 => unP fun o0_0_2 o0_1_2 => (bindO (fnDq18 ((1 : Int),o0_0_2,o0_1_2)) (unP fun r_3 => unP fun o0_0_3 o0_1_3 => (bindO (nodeDq37_n0 (a1,r,r_2,r_3)) fun t35 => (bif t35 then (exit ((0 : Int),(8 : Int))) else (exit (IntKind.wrap .i64 (r_3 + (1 : Int)),(0 : Int)))))))))))))
def fnDq37 (a : Aq37) : Option Yq37 := fnq37 a some
theorem fnq37_nat (a : Aq37) (k : Yq37 → Ans) : fnq37 a k = bindO (fnDq37 a) k := by
  obtain ⟨a0,a1⟩ := a
  simp only [fnDq37,fnq37,bindO_cond,bindO_assoc,bindO_none,bindO_pure,bindO_elim,bindO_unP,bindO_empty]
def argsq37 : Aq37 → List AV := fun (a0,a1) => [.str a0,.int .i64 a1]
def decPAq37 (l : List AV) : Option {a : Aq37 // l = argsq37 a} := match l with
  | [.str a0,.int .i64 a1] => some ⟨(a0,a1),rfl⟩
  | _ => none
def decAq37 (l : List AV) : Option Aq37 := pk (decPAq37 l)
theorem decAq37_ok (l : List AV) (a : Aq37) (h : decAq37 l = some a) : l = argsq37 a := pk_ok (o := decPAq37 l) h
def rendq37 : Aq37 → Yq37 → AV := fun (a0,a1) => unP fun r_0_y r_1_y => .tup [.int .i64 r_0_y,.int .i64 r_1_y]
theorem rendq37_ok : ∀ (a : Aq37) (y : Yq37),(rendq37 a y).closed1 = true := by
  rintro ⟨a0,a1⟩ y <;> first | rfl | exact Empty.elim y
theorem fnq37_ok (a : Aq37) : fnE Tryz.tab envq37 noHint 0 70 260 Tryz.f260.ntmps Tryz.f260.results.toList annq37 bq37 (argsq37 a) [] (fun v _ => some (v,[])) = fnq37 a (fun y => some (rendq37 a y,[])) := by kernel_rfl
def vFq37 (a : Aq37) (K : AV → Ans) : Ans := bindO (fnDq37 a) fun y => K (rendq37 a y)
def Fq37 : List AV → (AV → Ans) → Ans := fun l K => bindO (decAq37 l) fun a => vFq37 a K
theorem Fq37_ok : PureOk Tryz.prog 260 Fq37 := pure_mkD (hint := noHint) (d := 0) (n := 70) mixed tabOk envq37Ok Tryz.func260 (bodySome (by kernel_rfl)) (by decide +kernel) annq37_ok decAq37_ok fnq37_ok fnq37_nat rendq37_ok
--@ logrec_tail
noncomputable def envq38 : Env := [(123,.pure Fq4)]
theorem envq38Ok : EnvOk Tryz.prog envq38 := EnvOk.cons Fq4_ok (EnvOk.nil)
noncomputable def bq38 : Code := Tryz.f165.body.getD .skip
noncomputable def annq38 : Ann := .none
theorem annq38_ok : AnnOk Tryz.prog 9 bq38 annq38 := (annOk_none _ _ _)
abbrev Aq38 := (List UInt8) × (List UInt8)
abbrev Yq38 := (List UInt8)
def fnq38 {β : Type} : Aq38 → (Yq38 → Option β) → Option β := fun (a0,a1) exit => (bif Nat.ble (List.length a0 + List.length a1) (9223372036854775807 : Nat) then (bindO (fnDq4 (a0 ++ a1)) fun r => (exit (r))) else none)
def fnDq38 (a : Aq38) : Option Yq38 := fnq38 a some
theorem fnq38_nat (a : Aq38) (k : Yq38 → Ans) : fnq38 a k = bindO (fnDq38 a) k := by
  obtain ⟨a0,a1⟩ := a
  simp only [fnDq38,fnq38,bindO_cond,bindO_assoc,bindO_none,bindO_pure,bindO_elim,bindO_unP,bindO_empty]
def argsq38 : Aq38 → List AV := fun (a0,a1) => [.str a0,.str a1]
def decPAq38 (l : List AV) : Option {a : Aq38 // l = argsq38 a} := match l with
  | [.str a0,.str a1] => some ⟨(a0,a1),rfl⟩
  | _ => none
def decAq38 (l : List AV) : Option Aq38 := pk (decPAq38 l)
theorem decAq38_ok (l : List AV) (a : Aq38) (h : decAq38 l = some a) : l = argsq38 a := pk_ok (o := decPAq38 l) h
def rendq38 : Aq38 → Yq38 → AV := fun (a0,a1) => fun r_y => .str r_y
theorem rendq38_ok : ∀ (a : Aq38) (y : Yq38),(rendq38 a y).closed1 = true := by
  rintro ⟨a0,a1⟩ y <;> first | rfl | exact Empty.elim y
theorem fnq38_ok (a : Aq38) : fnE Tryz.tab envq38 noHint 0 70 165 Tryz.f165.ntmps Tryz.f165.results.toList annq38 bq38 (argsq38 a) [] (fun v _ => some (v,[])) = fnq38 a (fun y => some (rendq38 a y,[])) := by kernel_rfl
def vFq38 (a : Aq38) (K : AV → Ans) : Ans := bindO (fnDq38 a) fun y => K (rendq38 a y)
def Fq38 : List AV → (AV → Ans) → Ans := fun l K => bindO (decAq38 l) fun a => vFq38 a K
theorem Fq38_ok : PureOk Tryz.prog 165 Fq38 := pure_mkD (hint := noHint) (d := 0) (n := 70) mixed tabOk envq38Ok Tryz.func165 (bodySome (by kernel_rfl)) (by decide +kernel) annq38_ok decAq38_ok fnq38_ok fnq38_nat rendq38_ok
--@ logrec_Check_1
noncomputable def envq34 : Env := []
theorem envq34Ok : EnvOk Tryz.prog envq34 := EnvOk.nil
noncomputable def bq34 : Code := Tryz.f208.body.getD .skip
noncomputable def annq34 : Ann := .none
theorem annq34_ok : AnnOk Tryz.prog 9 bq34 annq34 := (annOk_none _ _ _)
abbrev Aq34 := (Int) × (List UInt8) × (Int) × (List UInt8)
abbrev Yq34 := (Bool)
def fnq34 {β : Type} : Aq34 → (Yq34 → Option β) → Option β := fun (a0_0,a0_1,o0_0,o0_1) exit => (exit (a0_0 == o0_0))
def fnDq34 (a : Aq34) : Option Yq34 := fnq34 a some
theorem fnq34_nat (a : Aq34) (k : Yq34 → Ans) : fnq34 a k = bindO (fnDq34 a) k := by
  obtain ⟨a0_0,a0_1,o0_0,o0_1⟩ := a
  simp only [fnDq34,fnq34,bindO_cond,bindO_assoc,bindO_none,bindO_pure,bindO_elim,bindO_unP,bindO_empty]
def argsq34 : Aq34 → List AV × List AE.Obj := fun (a0_0,a0_1,o0_0,o0_1) => ([.agg [.int .i64 a0_0,.str a0_1],.ptr 0 0],[.cells [.int .i64 o0_0,.str o0_1]])
def decPAq34 (l : List AV) (H : List AE.Obj) : Option {a : Aq34 // (l,H) = argsq34 a} := match l,H with
  | [.agg [.int .i64 a0_0,.str a0_1],.ptr 0 0],[.cells [.int .i64 o0_0,.str o0_1]] => some ⟨(a0_0,a0_1,o0_0,o0_1),rfl⟩
  | _,_ => none
def decAq34 (l : List AV) (H : List AE.Obj) : Option Aq34 := pk (decPAq34 l H)
theorem decAq34_ok (l : List AV) (H : List AE.Obj) (a : Aq34) (h : decAq34 l H = some a) : (l,H) = argsq34 a := pk_ok (o := decPAq34 l H) h
def outq34 : Aq34 → (AV → List AE.Obj → Ans) → Yq34 → Ans := fun (a0_0,a0_1,o0_0,o0_1) K => fun r_y => K (.bool r_y) [.cells [.int .i64 o0_0,.str o0_1]]
theorem fnq34_ok (a : Aq34) (K : AV → List AE.Obj → Ans) : fnE Tryz.tab envq34 noHint 0 70 208 Tryz.f208.ntmps Tryz.f208.results.toList annq34 bq34 (argsq34 a).1 (argsq34 a).2 K = fnq34 a (outq34 a K) := by kernel_rfl
def vFq34 (a : Aq34) (K : AV → List AE.Obj → Ans) : Ans := bindO (fnDq34 a) fun y => outq34 a K y
def Fq34 : List AV → List AE.Obj → (AV → List AE.Obj → Ans) → Ans := fun l H K => bindO (decAq34 l H) fun a => vFq34 a K
theorem Fq34_ok : FuncOk Tryz.prog 208 Fq34 := func_mkD (hint := noHint) (d := 0) (n := 70) mixed tabOk envq34Ok Tryz.func208 (bodySome (by kernel_rfl)) (by decide +kernel) annq34_ok decAq34_ok fnq34_ok fnq34_nat
--@ slices_IndexFunc_api_Sector_api_Sector
noncomputable def envq71 : Env := [(208,.func Fq34)]
theorem envq71Ok : EnvOk Tryz.prog envq71 := EnvOk.cons Fq34_ok (EnvOk.nil)
noncomputable def bq71 : Code := Tryz.f237.body.getD .skip
noncomputable def Lq71_n0 : Code := codeAt [1,0,1,0,0] bq71
noncomputable def annLq71_n0 : Ann := .at 1 [0,1,7,8] (.loop .none)
theorem annLq71_n0_ok : AnnOk Tryz.prog 19 (.loop Lq71_n0) annLq71_n0 := annOk_at (annOk_none _ _ _)
abbrev Iq71_n0 := (List (Int × List UInt8)) × (Int) × (Int) × (List UInt8)
abbrev Yq71_n0 := ((Int)) ⊕ (Unit)
abbrev Vq71_n0 := (Int)
def Sq71_n0 : Iq71_n0 → Vq71_n0 → St := fun (t0,t7,o0_0,o0_1) t8 => { env := [(0,.ro (.st (.pair (.int .i64) .str)) t0),(1,.fn (Fn.func 208) [] [.ptr 0 0]),(7,.int .i64 t7),(8,.int .i64 t8)],stk := [[(0,.ptr 0 0)]],H := [.cells [.int .i64 o0_0,.str o0_1]],blk := 970752 }
def decPq71_n0 (s : St) : Option {x : Iq71_n0 × Vq71_n0 // s = Sq71_n0 x.1 x.2} := match s with
  | { env := [(0,.ro (.st (.pair (.int .i64) .str)) t0),(1,.fn (Fn.func 208) [] [.ptr 0 0]),(7,.int .i64 t7),(8,.int .i64 t8)],stk := [[(0,.ptr 0 0)]],H := [.cells [.int .i64 o0_0,.str o0_1]],blk := 970752 } => some ⟨((t0,t7,o0_0,o0_1),t8),rfl⟩
  | _ => none
def decq71_n0 (s : St) : Option (Iq71_n0 × Vq71_n0) := pk (decPq71_n0 s)
theorem decq71_n0_ok (s : St) (x : Iq71_n0 × Vq71_n0) (h : decq71_n0 s = some x) : s = Sq71_n0 x.1 x.2 := pk_ok (o := decPq71_n0 s) h
def outq71_n0 : Iq71_n0 → (Ex → St → Ans) → Yq71_n0 → Ans := fun (t0,t7,o0_0,o0_1) K => (Sum.elim (fun t4_y => K (Ex.ret) { env := [(4,.int .i64 t4_y)],stk := [[(0,.ptr 0 0)]],H := [.cells [.int .i64 o0_0,.str o0_1]],blk := 970753 }) (fun _ => K (Ex.exit 0) { env := [],stk := [[(0,.ptr 0 0)]],H := [.cells [.int .i64 o0_0,.str o0_1]],blk := 970752 }))
def stepq71_n0 {β : Type} : Iq71_n0 → Vq71_n0 → (Vq71_n0 → Option β) → (Yq71_n0 → Option β) → Option β := fun (t0,t7,o0_0,o0_1) t8 next exit => (bif decide (t8 < t7) then (bindO (nth t0 t8) fun x => (bindO (fnDq34 (x.fst,x.snd,o0_0,o0_1)) fun r => (bif r then (exit (Sum.inl (t8))) else (next (IntKind.wrap .i64 (t8 + (1 : Int))))))) else (exit (Sum.inr ())))
def stepDq71_n0 (i : Iq71_n0) (v : Vq71_n0) : Option (Vq71_n0 ⊕ Yq71_n0) := stepq71_n0 i v (fun v => some (.inl v)) (fun y => some (.inr y))
theorem stepq71_n0_nat (i : Iq71_n0) (v : Vq71_n0) (next : Vq71_n0 → Ans) (exit : Yq71_n0 → Ans) : stepq71_n0 i v next exit = bindO (stepDq71_n0 i v) (Sum.elim next exit) := by
  obtain ⟨t0,t7,o0_0,o0_1⟩ := i
  obtain z := v
  simp only [stepDq71_n0,stepq71_n0,bindO_cond,bindO_assoc,bindO_none,bindO_pure,bindO_elim,bindO_unP,bindO_empty,Sum.elim_inl,Sum.elim_inr]
theorem stepq71_n0_ok (n : Nat) (i : Iq71_n0) (v : Vq71_n0) (K : Ex → St → Ans) : codeI Tryz.tab envq71 noHint (codeD Tryz.tab envq71 noHint 0 64) (n+1) 19 annLq71_n0 (.loop Lq71_n0) (weakP 1 (exk [] [4] [(0,[])]) K) (Sq71_n0 i v) = stepq71_n0 i v (fun v' => codeI Tryz.tab envq71 noHint (codeD Tryz.tab envq71 noHint 0 64) n 19 annLq71_n0 (.loop Lq71_n0) (weakP 1 (exk [] [4] [(0,[])]) K) (Sq71_n0 i v')) (fun y => outq71_n0 i K y) := by kernel_rfl
theorem GNq71_n0_ok : CSum Tryz.prog 19 (.loop Lq71_n0) (sumL decq71_n0 stepDq71_n0 outq71_n0) := csum_loop mixed tabOk envq71Ok 1 (exk [] [4] [(0,[])]) annLq71_n0_ok decq71_n0_ok stepq71_n0_ok stepq71_n0_nat
noncomputable def Gq71_n0 : (Ex → St → Ans) → St → Ans := (sumL decq71_n0 stepDq71_n0 outq71_n0)
theorem Gq71_n0_ok : CSum Tryz.prog 19 (.loop Lq71_n0) Gq71_n0 := GNq71_n0_ok
noncomputable def annq71 : Ann := (.seq .none (.seq (.seq .none (.block (.cut 1 [0,1,7,8] Gq71_n0))) .none))
theorem annq71_ok : AnnOk Tryz.prog 19 bq71 annq71 := ⟨(annOk_none _ _ _),⟨⟨(annOk_none _ _ _),Gq71_n0_ok⟩,(annOk_none _ _ _)⟩⟩
abbrev Aq71 := (List (Int × List UInt8)) × (Int) × (List UInt8)
abbrev Yq71 := (Int)
def fnq71 {β : Type} : Aq71 → (Yq71 → Option β) → Option β := fun (a0,o0_0,o0_1) exit => (bindO (loopD (stepDq71_n0 (a0,(↑(List.length a0) : Int),o0_0,o0_1)) FUEL ((0 : Int))) (Sum.elim (fun t4 => (exit (t4))) (fun _ => (exit ((-1 : Int))))))
def fnDq71 (a : Aq71) : Option Yq71 := fnq71 a some
theorem fnq71_nat (a : Aq71) (k : Yq71 → Ans) : fnq71 a k = bindO (fnDq71 a) k := by
  obtain ⟨a0,o0_0,o0_1⟩ := a
  simp only [fnDq71,fnq71,bindO_cond,bindO_assoc,bindO_none,bindO_pure,bindO_elim,bindO_unP,bindO_empty]
def argsq71 : Aq71 → List AV × List AE.Obj := fun (a0,o0_0,o0_1) => ([.ro (.st (.pair (.int .i64) .str)) a0,.fn (Fn.func 208) [] [.ptr 0 0]],[.cells [.int .i64 o0_0,.str o0_1]])
def decPAq71 (l : List AV) (H : List AE.Obj) : Option {a : Aq71 // (l,H) = argsq71 a} := match l,H with
  | [.ro (.st (.pair (.int .i64) .str)) a0,.fn (Fn.func 208) [] [.ptr 0 0]],[.cells [.int .i64 o0_0,.str o0_1]] => some ⟨(a0,o0_0,o0_1),rfl⟩
  | _,_ => none
def decAq71 (l : List AV) (H : List AE.Obj) : Option Aq71 := pk (decPAq71 l H)
theorem decAq71_ok (l : List AV) (H : List AE.Obj) (a : Aq71) (h : decAq71 l H = some a) : (l,H) = argsq71 a := pk_ok (o := decPAq71 l H) h
def outq71 : Aq71 → (AV → List AE.Obj → Ans) → Yq71 → Ans := fun (a0,o0_0,o0_1) K => fun r_y => K (.int .i64 r_y) [.cells [.int .i64 o0_0,.str o0_1]]
theorem fnq71_ok (a : Aq71) (K : AV → List AE.Obj → Ans) : fnE Tryz.tab envq71 noHint 0 70 237 Tryz.f237.ntmps Tryz.f237.results.toList annq71 bq71 (argsq71 a).1 (argsq71 a).2 K = fnq71 a (outq71 a K) := by kernel_rfl
def vFq71 (a : Aq71) (K : AV → List AE.Obj → Ans) : Ans := bindO (fnDq71 a) fun y => outq71 a K y
def Fq71 : List AV → List AE.Obj → (AV → List AE.Obj → Ans) → Ans := fun l H K => bindO (decAq71 l H) fun a => vFq71 a K
theorem Fq71_ok : FuncOk Tryz.prog 237 Fq71 := func_mkD (hint := noHint) (d := 0) (n := 70) mixed tabOk envq71Ok Tryz.func237 (bodySome (by kernel_rfl)) (by decide +kernel) annq71_ok decAq71_ok fnq71_ok fnq71_nat
--@ slices_ContainsFunc_api_Sector_api_Sector
noncomputable def envq69 : Env := [(237,.func Fq71)]
theorem envq69Ok : EnvOk Tryz.prog envq69 := EnvOk.cons Fq71_ok (EnvOk.nil)
noncomputable def bq69 : Code := Tryz.f207.body.getD .skip
noncomputable def annq69 : Ann := .none
theorem annq69_ok : AnnOk Tryz.prog 9 bq69 annq69 := (annOk_none _ _ _)
abbrev Aq69 := (List (Int × List UInt8)) × (Int) × (List UInt8)
abbrev Yq69 := (Bool)
def fnq69 {β : Type} : Aq69 → (Yq69 → Option β) → Option β := fun (a0,o0_0,o0_1) exit => (bindO (fnDq71 (a0,o0_0,o0_1)) fun r => (exit (decide (r ≥ (0 : Int)))))
def fnDq69 (a : Aq69) : Option Yq69 := fnq69 a some
theorem fnq69_nat (a : Aq69) (k : Yq69 → Ans) : fnq69 a k = bindO (fnDq69 a) k := by
  obtain ⟨a0,o0_0,o0_1⟩ := a
  simp only [fnDq69,fnq69,bindO_cond,bindO_assoc,bindO_none,bindO_pure,bindO_elim,bindO_unP,bindO_empty]
def argsq69 : Aq69 → List AV × List AE.Obj := fun (a0,o0_0,o0_1) => ([.ro (.st (.pair (.int .i64) .str)) a0,.fn (Fn.func 208) [] [.ptr 0 0]],[.cells [.int .i64 o0_0,.str o0_1]])
def decPAq69 (l : List AV) (H : List AE.Obj) : Option {a : Aq69 // (l,H) = argsq69 a} := match l,H with
  | [.ro (.st (.pair (.int .i64) .str)) a0,.fn (Fn.func 208) [] [.ptr 0 0]],[.cells [.int .i64 o0_0,.str o0_1]] => some ⟨(a0,o0_0,o0_1),rfl⟩
  | _,_ => none
def decAq69 (l : List AV) (H : List AE.Obj) : Option Aq69 := pk (decPAq69 l H)
theorem decAq69_ok (l : List AV) (H : List AE.Obj) (a : Aq69) (h : decAq69 l H = some a) : (l,H) = argsq69 a := pk_ok (o := decPAq69 l H) h
def outq69 : Aq69 → (AV → List AE.Obj → Ans) → Yq69 → Ans := fun (a0,o0_0,o0_1) K => fun r_y => K (.bool r_y) [.cells [.int .i64 o0_0,.str o0_1]]
theorem fnq69_ok (a : Aq69) (K : AV → List AE.Obj → Ans) : fnE Tryz.tab envq69 noHint 0 70 207 Tryz.f207.ntmps Tryz.f207.results.toList annq69 bq69 (argsq69 a).1 (argsq69 a).2 K = fnq69 a (outq69 a K) := by kernel_rfl
def vFq69 (a : Aq69) (K : AV → List AE.Obj → Ans) : Ans := bindO (fnDq69 a) fun y => outq69 a K y
def Fq69 : List AV → List AE.Obj → (AV → List AE.Obj → Ans) → Ans := fun l H K => bindO (decAq69 l H) fun a => vFq69 a K
theorem Fq69_ok : FuncOk Tryz.prog 207 Fq69 := func_mkD (hint := noHint) (d := 0) (n := 70) mixed tabOk envq69Ok Tryz.func207 (bodySome (by kernel_rfl)) (by decide +kernel) annq69_ok decAq69_ok fnq69_ok fnq69_nat
--@ logrec_Check
noncomputable def envq33 : Env := [(207,.func Fq69)]
theorem envq33Ok : EnvOk Tryz.prog envq33 := EnvOk.cons Fq69_ok (EnvOk.nil)
noncomputable def bq33 : Code := Tryz.f164.body.getD .skip
noncomputable def Lq33_n2 : Code := codeAt [1,1,0,1,0,0,1,1,0,0,1,0,0] bq33
noncomputable def annLq33_n2 : Ann := .none
theorem annLq33_n2_ok : AnnOk Tryz.prog 41 Lq33_n2 annLq33_n2 := (annOk_none _ _ _)
abbrev Iq33_n2 := (List (Int × List UInt8)) × (Int) × (List (Int × List UInt8)) × (Int) × (Int) × (Int) × (List UInt8)
abbrev Yq33_n2 := (Bool)
def Sq33_n2 : Iq33_n2 → St := fun (t0,t3,t13,t14,t15,o0_0,o0_1) => { env := [(0,.ro (.st (.pair (.int .i64) .str)) t0),(3,.int .i64 t3),(4,.ptr 0 0),(13,.ro (.st (.pair (.int .i64) .str)) t13),(14,.int .i64 t14),(15,.int .i64 t15)],stk := [[]],H := [.cells [.int .i64 o0_0,.str o0_1]],blk := 671747 }
def decPq33_n2 (s : St) : Option {x : Iq33_n2 // s = Sq33_n2 x} := match s with
  | { env := [(0,.ro (.st (.pair (.int .i64) .str)) t0),(3,.int .i64 t3),(4,.ptr 0 0),(13,.ro (.st (.pair (.int .i64) .str)) t13),(14,.int .i64 t14),(15,.int .i64 t15)],stk := [[]],H := [.cells [.int .i64 o0_0,.str o0_1]],blk := 671747 } => some ⟨(t0,t3,t13,t14,t15,o0_0,o0_1),rfl⟩
  | _ => none
def decq33_n2 (s : St) : Option Iq33_n2 := pk (decPq33_n2 s)
theorem decq33_n2_ok (s : St) (x : Iq33_n2) (h : decq33_n2 s = some x) : s = Sq33_n2 x := pk_ok (o := decPq33_n2 s) h
def outq33_n2 : Iq33_n2 → (Ex → St → Ans) → Yq33_n2 → Ans := fun (t0,t3,t13,t14,t15,o0_0,o0_1) K => fun t20_y => K (Ex.norm) { env := [(0,.ro (.st (.pair (.int .i64) .str)) t0),(3,.int .i64 t3),(4,.ptr 0 0),(13,.ro (.st (.pair (.int .i64) .str)) t13),(14,.int .i64 t14),(15,.int .i64 t15),(20,.bool t20_y)],stk := [[]],H := [.cells [.int .i64 o0_0,.str o0_1]],blk := 671747 }
def nodeq33_n2 {β : Type} : Iq33_n2 → (Yq33_n2 → Option β) → Option β := fun (t0,t3,t13,t14,t15,o0_0,o0_1) exit => (bif decide (o0_0 < (0 : Int)) then (exit (true)) else (exit (decide (o0_0 ≥ (1000 : Int)))))
def nodeDq33_n2 (i : Iq33_n2) : Option Yq33_n2 := nodeq33_n2 i some
theorem nodeq33_n2_nat (i : Iq33_n2) (k : Yq33_n2 → Ans) : nodeq33_n2 i k = bindO (nodeDq33_n2 i) k := by
  obtain ⟨t0,t3,t13,t14,t15,o0_0,o0_1⟩ := i
  simp only [nodeDq33_n2,nodeq33_n2,bindO_cond,bindO_assoc,bindO_none,bindO_pure,bindO_elim,bindO_unP,bindO_empty]
theorem nodeq33_n2_ok (i : Iq33_n2) (K : Ex → St → Ans) : codeI Tryz.tab envq33 noHint (codeD Tryz.tab envq33 noHint 0 64) 70 41 annLq33_n2 Lq33_n2 (weakP 0 (exk [0,3,4,13,14,15,20] [2] []) K) (Sq33_n2 i) = nodeq33_n2 i (outq33_n2 i K) := by kernel_rfl
theorem GNq33_n2_ok : CSum Tryz.prog 41 Lq33_n2 (sumN decq33_n2 nodeDq33_n2 outq33_n2) := csum_node mixed tabOk envq33Ok 0 (exk [0,3,4,13,14,15,20] [2] []) annLq33_n2_ok decq33_n2_ok nodeq33_n2_ok nodeq33_n2_nat
noncomputable def Gq33_n2 : (Ex → St → Ans) → St → Ans := (sumN decq33_n2 nodeDq33_n2 outq33_n2)
theorem Gq33_n2_ok : CSum Tryz.prog 41 Lq33_n2 Gq33_n2 := GNq33_n2_ok
noncomputable def Lq33_n1 : Code := codeAt [1,1,0,1,0,0,1,1,0] bq33
noncomputable def annLq33_n1 : Ann := (.block (.seq .none (.block (.seq (.cut 0 [0,3,4,13,14,15] Gq33_n2) .none))))
theorem annLq33_n1_ok : AnnOk Tryz.prog 41 Lq33_n1 annLq33_n1 := ⟨(annOk_none _ _ _),⟨Gq33_n2_ok,(annOk_none _ _ _)⟩⟩
abbrev Iq33_n1 := (List (Int × List UInt8)) × (List (Int × List UInt8)) × (Int) × (Int)
abbrev Yq33_n1 := ((Int)) ⊕ (Unit)
def Sq33_n1 : Iq33_n1 → St := fun (t0,t13,t14,t15) => { env := [(0,.ro (.st (.pair (.int .i64) .str)) t0),(13,.ro (.st (.pair (.int .i64) .str)) t13),(14,.int .i64 t14),(15,.int .i64 t15)],stk := [[]],H := [],blk := 671745 }
def decPq33_n1 (s : St) : Option {x : Iq33_n1 // s = Sq33_n1 x} := match s with
  | { env := [(0,.ro (.st (.pair (.int .i64) .str)) t0),(13,.ro (.st (.pair (.int .i64) .str)) t13),(14,.int .i64 t14),(15,.int .i64 t15)],stk := [[]],H := [],blk := 671745 } => some ⟨(t0,t13,t14,t15),rfl⟩
  | _ => none
def decq33_n1 (s : St) : Option Iq33_n1 := pk (decPq33_n1 s)
theorem decq33_n1_ok (s : St) (x : Iq33_n1) (h : decq33_n1 s = some x) : s = Sq33_n1 x := pk_ok (o := decPq33_n1 s) h
def outq33_n1 : Iq33_n1 → (Ex → St → Ans) → Yq33_n1 → Ans := fun (t0,t13,t14,t15) K => (Sum.elim (fun t2_y => K (Ex.ret) { env := [(2,.int .i64 t2_y)],stk := [[]],H := [],blk := 671747 }) (fun _ => K (Ex.norm) { env := [(0,.ro (.st (.pair (.int .i64) .str)) t0),(13,.ro (.st (.pair (.int .i64) .str)) t13),(14,.int .i64 t14),(15,.int .i64 t15)],stk := [[]],H := [],blk := 671747 }))
def nodeq33_n1 {β : Type} : Iq33_n1 → (Yq33_n1 → Option β) → Option β := fun (t0,t13,t14,t15) exit => (bindO (nth t13 t15) fun x => (bindO (nodeDq33_n2 (t0,t15,t13,t14,t15,x.fst,x.snd)) fun t20 => (bif t20 then (exit (Sum.inl ((3 : Int)))) else (bif (↑(List.length x.snd) : Int) != (64 : Int) then (exit (Sum.inl ((12 : Int)))) else (bif inR t15 (List.length t0 + (1 : Nat)) then (bindO (fnDq69 (List.take (Int.toNat t15) t0,x.fst,x.snd)) fun r => (bif r then (exit (Sum.inl ((9 : Int)))) else (exit (Sum.inr ())))) else none)))))
def nodeDq33_n1 (i : Iq33_n1) : Option Yq33_n1 := nodeq33_n1 i some
theorem nodeq33_n1_nat (i : Iq33_n1) (k : Yq33_n1 → Ans) : nodeq33_n1 i k = bindO (nodeDq33_n1 i) k := by
  obtain ⟨t0,t13,t14,t15⟩ := i
  simp only [nodeDq33_n1,nodeq33_n1,bindO_cond,bindO_assoc,bindO_none,bindO_pure,bindO_elim,bindO_unP,bindO_empty]
theorem nodeq33_n1_ok (i : Iq33_n1) (K : Ex → St → Ans) : codeI Tryz.tab envq33 noHint (codeD Tryz.tab envq33 noHint 0 64) 70 41 annLq33_n1 Lq33_n1 (weakP 0 (exk [0,13,14,15] [2] []) K) (Sq33_n1 i) = nodeq33_n1 i (outq33_n1 i K) := by kernel_rfl
theorem GNq33_n1_ok : CSum Tryz.prog 41 Lq33_n1 (sumN decq33_n1 nodeDq33_n1 outq33_n1) := csum_node mixed tabOk envq33Ok 0 (exk [0,13,14,15] [2] []) annLq33_n1_ok decq33_n1_ok nodeq33_n1_ok nodeq33_n1_nat
noncomputable def Gq33_n1 : (Ex → St → Ans) → St → Ans := (sumN decq33_n1 nodeDq33_n1 outq33_n1)
theorem Gq33_n1_ok : CSum Tryz.prog 41 Lq33_n1 Gq33_n1 := GNq33_n1_ok
noncomputable def Lq33_n0 : Code := codeAt [1,1,0,1,0,0] bq33
noncomputable def annLq33_n0 : Ann := .at 0 [0,13,14,15] (.loop (.seq .none (.seq .none (.seq (.cut 0 [0,13,14,15] Gq33_n1) .none))))
theorem annLq33_n0_ok : AnnOk Tryz.prog 41 (.loop Lq33_n0) annLq33_n0 := annOk_at ⟨(annOk_none _ _ _),⟨(annOk_none _ _ _),⟨Gq33_n1_ok,(annOk_none _ _ _)⟩⟩⟩
abbrev Iq33_n0 := (List (Int × List UInt8)) × (List (Int × List UInt8)) × (Int)
abbrev Yq33_n0 := ((Int)) ⊕ (Unit)
abbrev Vq33_n0 := (Int)
def Sq33_n0 : Iq33_n0 → Vq33_n0 → St := fun (t0,t13,t14) t15 => { env := [(0,.ro (.st (.pair (.int .i64) .str)) t0),(13,.ro (.st (.pair (.int .i64) .str)) t13),(14,.int .i64 t14),(15,.int .i64 t15)],stk := [[]],H := [],blk := 671745 }
def decPq33_n0 (s : St) : Option {x : Iq33_n0 × Vq33_n0 // s = Sq33_n0 x.1 x.2} := match s with
  | { env := [(0,.ro (.st (.pair (.int .i64) .str)) t0),(13,.ro (.st (.pair (.int .i64) .str)) t13),(14,.int .i64 t14),(15,.int .i64 t15)],stk := [[]],H := [],blk := 671745 } => some ⟨((t0,t13,t14),t15),rfl⟩
  | _ => none
def decq33_n0 (s : St) : Option (Iq33_n0 × Vq33_n0) := pk (decPq33_n0 s)
theorem decq33_n0_ok (s : St) (x : Iq33_n0 × Vq33_n0) (h : decq33_n0 s = some x) : s = Sq33_n0 x.1 x.2 := pk_ok (o := decPq33_n0 s) h
def outq33_n0 : Iq33_n0 → (Ex → St → Ans) → Yq33_n0 → Ans := fun (t0,t13,t14) K => (Sum.elim (fun t2_y => K (Ex.ret) { env := [(2,.int .i64 t2_y)],stk := [[]],H := [],blk := 671747 }) (fun _ => K (Ex.exit 1) { env := [],stk := [[]],H := [],blk := 671745 }))
def stepq33_n0 {β : Type} : Iq33_n0 → Vq33_n0 → (Vq33_n0 → Option β) → (Yq33_n0 → Option β) → Option β := fun (t0,t13,t14) t15 next exit => (bif decide (t15 < t14) then (bindO (nodeDq33_n1 (t0,t13,t14,t15)) (Sum.elim (fun t2 => (exit (Sum.inl (t2)))) (fun _ => (next (IntKind.wrap .i64 (t15 + (1 : Int))))))) else (exit (Sum.inr ())))
def stepDq33_n0 (i : Iq33_n0) (v : Vq33_n0) : Option (Vq33_n0 ⊕ Yq33_n0) := stepq33_n0 i v (fun v => some (.inl v)) (fun y => some (.inr y))
theorem stepq33_n0_nat (i : Iq33_n0) (v : Vq33_n0) (next : Vq33_n0 → Ans) (exit : Yq33_n0 → Ans) : stepq33_n0 i v next exit = bindO (stepDq33_n0 i v) (Sum.elim next exit) := by
  obtain ⟨t0,t13,t14⟩ := i
  obtain z := v
  simp only [stepDq33_n0,stepq33_n0,bindO_cond,bindO_assoc,bindO_none,bindO_pure,bindO_elim,bindO_unP,bindO_empty,Sum.elim_inl,Sum.elim_inr]
theorem stepq33_n0_ok (n : Nat) (i : Iq33_n0) (v : Vq33_n0) (K : Ex → St → Ans) : codeI Tryz.tab envq33 noHint (codeD Tryz.tab envq33 noHint 0 64) (n+1) 41 annLq33_n0 (.loop Lq33_n0) (weakP 0 (exk [] [2] [(1,[])]) K) (Sq33_n0 i v) = stepq33_n0 i v (fun v' => codeI Tryz.tab envq33 noHint (codeD Tryz.tab envq33 noHint 0 64) n 41 annLq33_n0 (.loop Lq33_n0) (weakP 0 (exk [] [2] [(1,[])]) K) (Sq33_n0 i v')) (fun y => outq33_n0 i K y) := by kernel_rfl
theorem GNq33_n0_ok : CSum Tryz.prog 41 (.loop Lq33_n0) (sumL decq33_n0 stepDq33_n0 outq33_n0) := csum_loop mixed tabOk envq33Ok 0 (exk [] [2] [(1,[])]) annLq33_n0_ok decq33_n0_ok stepq33_n0_ok stepq33_n0_nat
noncomputable def Gq33_n0 : (Ex → St → Ans) → St → Ans := (sumL decq33_n0 stepDq33_n0 outq33_n0)
theorem Gq33_n0_ok : CSum Tryz.prog 41 (.loop Lq33_n0) Gq33_n0 := GNq33_n0_ok
noncomputable def annq33 : Ann := (.seq .none (.seq .none (.seq (.seq .none (.block (.cut 0 [0,13,14,15] Gq33_n0))) .none)))
theorem annq33_ok : AnnOk Tryz.prog 41 bq33 annq33 := ⟨(annOk_none _ _ _),⟨(annOk_none _ _ _),⟨⟨(annOk_none _ _ _),Gq33_n0_ok⟩,(annOk_none _ _ _)⟩⟩⟩
abbrev Aq33 := (List (Int × List UInt8))
abbrev Yq33 := (Int)
def fnq33 {β : Type} : Aq33 → (Yq33 → Option β) → Option β := fun a0 exit => (bif (↑(List.length a0) : Int) == (0 : Int) then (exit ((8 : Int))) else (bif decide ((↑(List.length a0) : Int) > (16 : Int)) then (exit ((6 : Int))) else (bindO (loopD (stepDq33_n0 (a0,a0,(↑(List.length a0) : Int))) FUEL ((0 : Int))) (Sum.elim (fun t2 => (exit (t2))) (fun _ => (exit ((0 : Int))))))))
def fnDq33 (a : Aq33) : Option Yq33 := fnq33 a some
theorem fnq33_nat (a : Aq33) (k : Yq33 → Ans) : fnq33 a k = bindO (fnDq33 a) k := by
  obtain z := a
  simp only [fnDq33,fnq33,bindO_cond,bindO_assoc,bindO_none,bindO_pure,bindO_elim,bindO_unP,bindO_empty]
def argsq33 : Aq33 → List AV := fun a0 => [.ro (.st (.pair (.int .i64) .str)) a0]
def decPAq33 (l : List AV) : Option {a : Aq33 // l = argsq33 a} := match l with
  | [.ro (.st (.pair (.int .i64) .str)) a0] => some ⟨(a0),rfl⟩
  | _ => none
def decAq33 (l : List AV) : Option Aq33 := pk (decPAq33 l)
theorem decAq33_ok (l : List AV) (a : Aq33) (h : decAq33 l = some a) : l = argsq33 a := pk_ok (o := decPAq33 l) h
def rendq33 : Aq33 → Yq33 → AV := fun a0 => fun r_y => .int .i64 r_y
theorem rendq33_ok : ∀ (a : Aq33) (y : Yq33),(rendq33 a y).closed1 = true := by
  rintro z y <;> first | rfl | exact Empty.elim y
theorem fnq33_ok (a : Aq33) : fnE Tryz.tab envq33 noHint 0 70 164 Tryz.f164.ntmps Tryz.f164.results.toList annq33 bq33 (argsq33 a) [] (fun v _ => some (v,[])) = fnq33 a (fun y => some (rendq33 a y,[])) := by kernel_rfl
def vFq33 (a : Aq33) (K : AV → Ans) : Ans := bindO (fnDq33 a) fun y => K (rendq33 a y)
def Fq33 : List AV → (AV → Ans) → Ans := fun l K => bindO (decAq33 l) fun a => vFq33 a K
theorem Fq33_ok : PureOk Tryz.prog 164 Fq33 := pure_mkD (hint := noHint) (d := 0) (n := 70) mixed tabOk envq33Ok Tryz.func164 (bodySome (by kernel_rfl)) (by decide +kernel) annq33_ok decAq33_ok fnq33_ok fnq33_nat rendq33_ok
--@ logrec_Put
noncomputable def envq36 : Env := [(119,.func (altF decABuilder_String vFBuilder_String FBuilder_StringAgain)),(121,.pure Fq16),(122,.pure Fq51),(118,.func Fq74),(165,.pure Fq38),(164,.pure Fq33)]
theorem envq36Ok : EnvOk Tryz.prog envq36 := EnvOk.cons (func_altF FBuilder_String_ok FBuilder_StringAgain_ok) (EnvOk.cons Fq16_ok (EnvOk.cons Fq51_ok (EnvOk.cons Fq74_ok (EnvOk.cons Fq38_ok (EnvOk.cons Fq33_ok (EnvOk.nil))))))
noncomputable def bq36 : Code := Tryz.f102.body.getD .skip
noncomputable def Lq36_n1 : Code := codeAt [1,1,1,1,1,0,1,0,0] bq36
noncomputable def annLq36_n1 : Ann := .at 0 [7,8,27,28,29] (.loop .none)
theorem annLq36_n1_ok : AnnOk Tryz.prog 49 (.loop Lq36_n1) annLq36_n1 := annOk_at (annOk_none _ _ _)
abbrev Iq36_n1 := (List (Int × List UInt8)) × (Int)
abbrev Yq36_n1 := (List UInt8) × (List Int)
abbrev Vq36_n1 := (List UInt8) × (Int) × (List Int)
def Sq36_n1 : Iq36_n1 → Vq36_n1 → St := fun (t27,t28) (t7,t29,o1) => { env := [(7,.str t7),(8,.ptr 0 0),(27,.ro (.st (.pair (.int .i64) .str)) t27),(28,.int .i64 t28),(29,.int .i64 t29)],stk := [[]],H := [.bcells [.own 1],.arr (.int .u8) o1],blk := 417792 }
def decPq36_n1 (s : St) : Option {x : Iq36_n1 × Vq36_n1 // s = Sq36_n1 x.1 x.2} := match s with
  | { env := [(7,.str t7),(8,.ptr 0 0),(27,.ro (.st (.pair (.int .i64) .str)) t27),(28,.int .i64 t28),(29,.int .i64 t29)],stk := [[]],H := [.bcells [.own 1],.arr (.int .u8) o1],blk := 417792 } => some ⟨((t27,t28),(t7,t29,o1)),rfl⟩
  | _ => none
def decq36_n1 (s : St) : Option (Iq36_n1 × Vq36_n1) := pk (decPq36_n1 s)
theorem decq36_n1_ok (s : St) (x : Iq36_n1 × Vq36_n1) (h : decq36_n1 s = some x) : s = Sq36_n1 x.1 x.2 := pk_ok (o := decPq36_n1 s) h
def outq36_n1 : Iq36_n1 → (Ex → St → Ans) → Yq36_n1 → Ans := fun (t27,t28) K => unP fun t7_y o1_y => K (Ex.exit 0) { env := [(7,.str t7_y),(8,.ptr 0 0)],stk := [[]],H := [.bcells [.own 1],.arr (.int .u8) o1_y],blk := 417792 }
def stepq36_n1 {β : Type} : Iq36_n1 → Vq36_n1 → (Vq36_n1 → Option β) → (Yq36_n1 → Option β) → Option β := fun (t27,t28) (t7,t29,o1) next exit => (bif decide (t29 < t28) then (bindO (nth t27 t29) fun x => (bindO (fnDq16 (t7,x.fst,(2 : Int))) fun r => (bindO (fnDq74 (x.snd,o1)) (unP fun r_0 o1_2 => (next (r,IntKind.wrap .i64 (t29 + (1 : Int)),o1_2)))))) else (exit (t7,o1)))
def stepDq36_n1 (i : Iq36_n1) (v : Vq36_n1) : Option (Vq36_n1 ⊕ Yq36_n1) := stepq36_n1 i v (fun v => some (.inl v)) (fun y => some (.inr y))
theorem stepq36_n1_nat (i : Iq36_n1) (v : Vq36_n1) (next : Vq36_n1 → Ans) (exit : Yq36_n1 → Ans) : stepq36_n1 i v next exit = bindO (stepDq36_n1 i v) (Sum.elim next exit) := by
  obtain ⟨t27,t28⟩ := i
  obtain ⟨t7,t29,o1⟩ := v
  simp only [stepDq36_n1,stepq36_n1,bindO_cond,bindO_assoc,bindO_none,bindO_pure,bindO_elim,bindO_unP,bindO_empty,Sum.elim_inl,Sum.elim_inr]
theorem stepq36_n1_ok (n : Nat) (i : Iq36_n1) (v : Vq36_n1) (K : Ex → St → Ans) : codeI Tryz.tab envq36 noHint (codeD Tryz.tab envq36 noHint 0 64) (n+1) 49 annLq36_n1 (.loop Lq36_n1) (weakP 0 (exk [7,8] [4,5] [(0,[7,8])]) K) (Sq36_n1 i v) = stepq36_n1 i v (fun v' => codeI Tryz.tab envq36 noHint (codeD Tryz.tab envq36 noHint 0 64) n 49 annLq36_n1 (.loop Lq36_n1) (weakP 0 (exk [7,8] [4,5] [(0,[7,8])]) K) (Sq36_n1 i v')) (fun y => outq36_n1 i K y) := by kernel_rfl
theorem GNq36_n1_ok : CSum Tryz.prog 49 (.loop Lq36_n1) (sumL decq36_n1 stepDq36_n1 outq36_n1) := csum_loop mixed tabOk envq36Ok 0 (exk [7,8] [4,5] [(0,[7,8])]) annLq36_n1_ok decq36_n1_ok stepq36_n1_ok stepq36_n1_nat
noncomputable def Gq36_n1 : (Ex → St → Ans) → St → Ans := (sumL decq36_n1 stepDq36_n1 outq36_n1)
theorem Gq36_n1_ok : CSum Tryz.prog 49 (.loop Lq36_n1) Gq36_n1 := GNq36_n1_ok
noncomputable def Lq36_n0 : Code := codeAt [1,0,0] bq36
noncomputable def annLq36_n0 : Ann := .none
theorem annLq36_n0_ok : AnnOk Tryz.prog 49 Lq36_n0 annLq36_n0 := (annOk_none _ _ _)
abbrev Iq36_n0 := (Int) × (List (Int × List UInt8))
abbrev Yq36_n0 := (Bool)
def Sq36_n0 : Iq36_n0 → St := fun (t0,t1) => { env := [(0,.int .i64 t0),(1,.ro (.st (.pair (.int .i64) .str)) t1)],stk := [[]],H := [],blk := 417792 }
def decPq36_n0 (s : St) : Option {x : Iq36_n0 // s = Sq36_n0 x} := match s with
  | { env := [(0,.int .i64 t0),(1,.ro (.st (.pair (.int .i64) .str)) t1)],stk := [[]],H := [],blk := 417792 } => some ⟨(t0,t1),rfl⟩
  | _ => none
def decq36_n0 (s : St) : Option Iq36_n0 := pk (decPq36_n0 s)
theorem decq36_n0_ok (s : St) (x : Iq36_n0) (h : decq36_n0 s = some x) : s = Sq36_n0 x := pk_ok (o := decPq36_n0 s) h
def outq36_n0 : Iq36_n0 → (Ex → St → Ans) → Yq36_n0 → Ans := fun (t0,t1) K => fun t16_y => K (Ex.norm) { env := [(0,.int .i64 t0),(1,.ro (.st (.pair (.int .i64) .str)) t1),(16,.bool t16_y)],stk := [[]],H := [],blk := 417792 }
def nodeq36_n0 {β : Type} : Iq36_n0 → (Yq36_n0 → Option β) → Option β := fun (t0,t1) exit => (bif decide (t0 < (0 : Int)) then (exit (true)) else (exit (decide (t0 ≥ (281474976710656 : Int)))))
def nodeDq36_n0 (i : Iq36_n0) : Option Yq36_n0 := nodeq36_n0 i some
theorem nodeq36_n0_nat (i : Iq36_n0) (k : Yq36_n0 → Ans) : nodeq36_n0 i k = bindO (nodeDq36_n0 i) k := by
  obtain ⟨t0,t1⟩ := i
  simp only [nodeDq36_n0,nodeq36_n0,bindO_cond,bindO_assoc,bindO_none,bindO_pure,bindO_elim,bindO_unP,bindO_empty]
theorem nodeq36_n0_ok (i : Iq36_n0) (K : Ex → St → Ans) : codeI Tryz.tab envq36 noHint (codeD Tryz.tab envq36 noHint 0 64) 70 49 annLq36_n0 Lq36_n0 (weakP 0 (exk [0,1,16] [4,5] []) K) (Sq36_n0 i) = nodeq36_n0 i (outq36_n0 i K) := by kernel_rfl
theorem GNq36_n0_ok : CSum Tryz.prog 49 Lq36_n0 (sumN decq36_n0 nodeDq36_n0 outq36_n0) := csum_node mixed tabOk envq36Ok 0 (exk [0,1,16] [4,5] []) annLq36_n0_ok decq36_n0_ok nodeq36_n0_ok nodeq36_n0_nat
noncomputable def Gq36_n0 : (Ex → St → Ans) → St → Ans := (sumN decq36_n0 nodeDq36_n0 outq36_n0)
theorem Gq36_n0_ok : CSum Tryz.prog 49 Lq36_n0 Gq36_n0 := GNq36_n0_ok
noncomputable def annq36 : Ann := (.seq .none (.seq (.seq (.cut 0 [0,1] Gq36_n0) .none) (.seq .none (.seq .none (.seq .none (.seq (.seq .none (.block (.cut 0 [7,8,27,28,29] Gq36_n1))) .none))))))
theorem annq36_ok : AnnOk Tryz.prog 49 bq36 annq36 := ⟨(annOk_none _ _ _),⟨⟨Gq36_n0_ok,(annOk_none _ _ _)⟩,⟨(annOk_none _ _ _),⟨(annOk_none _ _ _),⟨(annOk_none _ _ _),⟨⟨(annOk_none _ _ _),Gq36_n1_ok⟩,(annOk_none _ _ _)⟩⟩⟩⟩⟩⟩
abbrev Aq36 := (Int) × (List (Int × List UInt8))
abbrev Yq36 := (List UInt8) × (Int)
def fnq36 {β : Type} : Aq36 → (Yq36 → Option β) → Option β := fun (a0,a1) exit => (bindO (nodeDq36_n0 (a0,a1)) fun t16 => (bif t16 then (exit ([],(3 : Int))) else (bindO (fnDq33 (a1)) fun r => (bif r != (0 : Int) then (exit ([],r)) else (bindO (fnDq16 ([(82 : UInt8)],a0,(6 : Int))) fun r_2 => (bindO (fnDq16 (r_2,(↑(List.length a1) : Int),(1 : Int))) fun r_3 => (bindO (loopD (stepDq36_n1 (a1,(↑(List.length a1) : Int))) FUEL (r_3,(0 : Int),[])) (unP fun t7 o1 => (bindO (fnDBuilder_String (o1)) (unP fun r_4 o0 => (bindO (fnDq38 (t7,r_4)) fun r_5 => (bif Nat.ble (List.length t7 + List.length r_5) (9223372036854775807 : Nat) then (bindO (fnDq51 (t7 ++ r_5)) fun r_6 => (bindO (fnDBuilder_StringAgain (o0)) (unP fun r_7 o0_2 => (bif Nat.ble (List.length r_6 + List.length r_7) (9223372036854775807 : Nat) then (exit (r_6 ++ r_7,(0 : Int))) else none)))) else none))))))))))))
def fnDq36 (a : Aq36) : Option Yq36 := fnq36 a some
theorem fnq36_nat (a : Aq36) (k : Yq36 → Ans) : fnq36 a k = bindO (fnDq36 a) k := by
  obtain ⟨a0,a1⟩ := a
  simp only [fnDq36,fnq36,bindO_cond,bindO_assoc,bindO_none,bindO_pure,bindO_elim,bindO_unP,bindO_empty]
def argsq36 : Aq36 → List AV := fun (a0,a1) => [.int .i64 a0,.ro (.st (.pair (.int .i64) .str)) a1]
def decPAq36 (l : List AV) : Option {a : Aq36 // l = argsq36 a} := match l with
  | [.int .i64 a0,.ro (.st (.pair (.int .i64) .str)) a1] => some ⟨(a0,a1),rfl⟩
  | _ => none
def decAq36 (l : List AV) : Option Aq36 := pk (decPAq36 l)
theorem decAq36_ok (l : List AV) (a : Aq36) (h : decAq36 l = some a) : l = argsq36 a := pk_ok (o := decPAq36 l) h
def rendq36 : Aq36 → Yq36 → AV := fun (a0,a1) => unP fun r_0_y r_1_y => .tup [.str r_0_y,.int .i64 r_1_y]
theorem rendq36_ok : ∀ (a : Aq36) (y : Yq36),(rendq36 a y).closed1 = true := by
  rintro ⟨a0,a1⟩ y <;> first | rfl | exact Empty.elim y
theorem fnq36_ok (a : Aq36) : fnE Tryz.tab envq36 noHint 0 70 102 Tryz.f102.ntmps Tryz.f102.results.toList annq36 bq36 (argsq36 a) [] (fun v _ => some (v,[])) = fnq36 a (fun y => some (rendq36 a y,[])) := by kernel_rfl
def vFq36 (a : Aq36) (K : AV → Ans) : Ans := bindO (fnDq36 a) fun y => K (rendq36 a y)
def Fq36 : List AV → (AV → Ans) → Ans := fun l K => bindO (decAq36 l) fun a => vFq36 a K
theorem Fq36_ok : PureOk Tryz.prog 102 Fq36 := pure_mkD (hint := noHint) (d := 0) (n := 70) mixed tabOk envq36Ok Tryz.func102 (bodySome (by kernel_rfl)) (by decide +kernel) annq36_ok decAq36_ok fnq36_ok fnq36_nat rendq36_ok
--@ logrec_Get
noncomputable def envq35 : Env := [(129,.func Fq15),(130,.func Fq17),(131,.func Fq18),(165,.pure Fq38),(102,.pure Fq36)]
theorem envq35Ok : EnvOk Tryz.prog envq35 := EnvOk.cons Fq15_ok (EnvOk.cons Fq17_ok (EnvOk.cons Fq18_ok (EnvOk.cons Fq38_ok (EnvOk.cons Fq36_ok (EnvOk.nil)))))
noncomputable def bq35 : Code := Tryz.f261.body.getD .skip
noncomputable def Lq35_n4 : Code := codeAt [1,1,1,1,1,1,1,1,1,1,1,0,1,0] bq35
noncomputable def annLq35_n4 : Ann := .none
theorem annLq35_n4_ok : AnnOk Tryz.prog 106 Lq35_n4 annLq35_n4 := (annOk_none _ _ _)
abbrev Iq35_n4 := (List UInt8) × (Int) × (List UInt8) × (Int) × (List (Int × List UInt8))
abbrev Yq35_n4 := (Bool)
def Sq35_n4 : Iq35_n4 → St := fun (t0,t8,t14,t15,o0) => { env := [(0,.str t0),(8,.int .i64 t8),(10,.own 0),(14,.str t14),(15,.int .i64 t15)],stk := [[]],H := [.arr (.st (.pair (.int .i64) .str)) o0],blk := 1069058 }
def decPq35_n4 (s : St) : Option {x : Iq35_n4 // s = Sq35_n4 x} := match s with
  | { env := [(0,.str t0),(8,.int .i64 t8),(10,.own 0),(14,.str t14),(15,.int .i64 t15)],stk := [[]],H := [.arr (.st (.pair (.int .i64) .str)) o0],blk := 1069058 } => some ⟨(t0,t8,t14,t15,o0),rfl⟩
  | _ => none
def decq35_n4 (s : St) : Option Iq35_n4 := pk (decPq35_n4 s)
theorem decq35_n4_ok (s : St) (x : Iq35_n4) (h : decq35_n4 s = some x) : s = Sq35_n4 x := pk_ok (o := decPq35_n4 s) h
def outq35_n4 : Iq35_n4 → (Ex → St → Ans) → Yq35_n4 → Ans := fun (t0,t8,t14,t15,o0) K => fun t103_y => K (Ex.norm) { env := [(8,.int .i64 t8),(10,.own 0),(103,.bool t103_y)],stk := [[]],H := [.arr (.st (.pair (.int .i64) .str)) o0],blk := 1069058 }
def nodeq35_n4 {β : Type} : Iq35_n4 → (Yq35_n4 → Option β) → Option β := fun (t0,t8,t14,t15,o0) exit => (bif t15 != (0 : Int) then (exit (true)) else (exit (!t14 == t0)))
def nodeDq35_n4 (i : Iq35_n4) : Option Yq35_n4 := nodeq35_n4 i some
theorem nodeq35_n4_nat (i : Iq35_n4) (k : Yq35_n4 → Ans) : nodeq35_n4 i k = bindO (nodeDq35_n4 i) k := by
  obtain ⟨t0,t8,t14,t15,o0⟩ := i
  simp only [nodeDq35_n4,nodeq35_n4,bindO_cond,bindO_assoc,bindO_none,bindO_pure,bindO_elim,bindO_unP,bindO_empty]
theorem nodeq35_n4_ok (i : Iq35_n4) (K : Ex → St → Ans) : codeI Tryz.tab envq35 noHint (codeD Tryz.tab envq35 noHint 0 64) 70 106 annLq35_n4 Lq35_n4 (weakP 0 (exk [8,10,103] [2,3,4] []) K) (Sq35_n4 i) = nodeq35_n4 i (outq35_n4 i K) := by kernel_rfl
theorem GNq35_n4_ok : CSum Tryz.prog 106 Lq35_n4 (sumN decq35_n4 nodeDq35_n4 outq35_n4) := csum_node mixed tabOk envq35Ok 0 (exk [8,10,103] [2,3,4] []) annLq35_n4_ok decq35_n4_ok nodeq35_n4_ok nodeq35_n4_nat
noncomputable def Gq35_n4 : (Ex → St → Ans) → St → Ans := (sumN decq35_n4 nodeDq35_n4 outq35_n4)
theorem Gq35_n4_ok : CSum Tryz.prog 106 Lq35_n4 Gq35_n4 := GNq35_n4_ok
noncomputable def Lq35_n3 : Code := codeAt [1,1,1,1,1,1,1,1,1,1,0,1,0,0] bq35
noncomputable def annLq35_n3 : Ann := .at 0 [0,8,10,11,77,78] (.loop .none)
theorem annLq35_n3_ok : AnnOk Tryz.prog 106 (.loop Lq35_n3) annLq35_n3 := annOk_at (annOk_none _ _ _)
abbrev Iq35_n3 := (List UInt8) × (Int) × (List UInt8) × (Int)
abbrev Yq35_n3 := (List (Int × List UInt8))
abbrev Vq35_n3 := (Int) × (List (Int × List UInt8))
def Sq35_n3 : Iq35_n3 → Vq35_n3 → St := fun (t0,t8,t11,t77) (t78,o0) => { env := [(0,.str t0),(8,.int .i64 t8),(10,.own 0),(11,.str t11),(77,.int .i64 t77),(78,.int .i64 t78)],stk := [[]],H := [.arr (.st (.pair (.int .i64) .str)) o0],blk := 1069058 }
def decPq35_n3 (s : St) : Option {x : Iq35_n3 × Vq35_n3 // s = Sq35_n3 x.1 x.2} := match s with
  | { env := [(0,.str t0),(8,.int .i64 t8),(10,.own 0),(11,.str t11),(77,.int .i64 t77),(78,.int .i64 t78)],stk := [[]],H := [.arr (.st (.pair (.int .i64) .str)) o0],blk := 1069058 } => some ⟨((t0,t8,t11,t77),(t78,o0)),rfl⟩
  | _ => none
def decq35_n3 (s : St) : Option (Iq35_n3 × Vq35_n3) := pk (decPq35_n3 s)
theorem decq35_n3_ok (s : St) (x : Iq35_n3 × Vq35_n3) (h : decq35_n3 s = some x) : s = Sq35_n3 x.1 x.2 := pk_ok (o := decPq35_n3 s) h
def outq35_n3 : Iq35_n3 → (Ex → St → Ans) → Yq35_n3 → Ans := fun (t0,t8,t11,t77) K => fun o0_y => K (Ex.exit 2) { env := [(0,.str t0),(8,.int .i64 t8),(10,.own 0)],stk := [[]],H := [.arr (.st (.pair (.int .i64) .str)) o0_y],blk := 1069058 }
def stepq35_n3 {β : Type} : Iq35_n3 → Vq35_n3 → (Vq35_n3 → Option β) → (Yq35_n3 → Option β) → Option β := fun (t0,t8,t11,t77) (t78,o0) next exit => (bif decide (t78 < t77) then (bif inR (IntKind.wrap .i64 (t78 * (64 : Int))) (List.length t11 + (1 : Nat)) then (bif inR (64 : Int) (List.length (List.drop (Int.toNat (IntKind.wrap .i64 (t78 * (64 : Int)))) t11) + (1 : Nat)) then (bif inR t78 (List.length o0) then (bindO (o0[Int.toNat t78]?) fun x => (next (IntKind.wrap .i64 (t78 + (1 : Int)),List.set o0 (Int.toNat t78) (x.fst,List.take (64 : Nat) (List.drop (Int.toNat (IntKind.wrap .i64 (t78 * (64 : Int)))) t11))))) else none) else none) else none) else (exit (o0)))
def stepDq35_n3 (i : Iq35_n3) (v : Vq35_n3) : Option (Vq35_n3 ⊕ Yq35_n3) := stepq35_n3 i v (fun v => some (.inl v)) (fun y => some (.inr y))
theorem stepq35_n3_nat (i : Iq35_n3) (v : Vq35_n3) (next : Vq35_n3 → Ans) (exit : Yq35_n3 → Ans) : stepq35_n3 i v next exit = bindO (stepDq35_n3 i v) (Sum.elim next exit) := by
  obtain ⟨t0,t8,t11,t77⟩ := i
  obtain ⟨t78,o0⟩ := v
  simp only [stepDq35_n3,stepq35_n3,bindO_cond,bindO_assoc,bindO_none,bindO_pure,bindO_elim,bindO_unP,bindO_empty,Sum.elim_inl,Sum.elim_inr]
theorem stepq35_n3_ok (n : Nat) (i : Iq35_n3) (v : Vq35_n3) (K : Ex → St → Ans) : codeI Tryz.tab envq35 noHint (codeD Tryz.tab envq35 noHint 0 64) (n+1) 106 annLq35_n3 (.loop Lq35_n3) (weakP 0 (exk [0,8,10] [2,3,4] [(2,[0,8,10])]) K) (Sq35_n3 i v) = stepq35_n3 i v (fun v' => codeI Tryz.tab envq35 noHint (codeD Tryz.tab envq35 noHint 0 64) n 106 annLq35_n3 (.loop Lq35_n3) (weakP 0 (exk [0,8,10] [2,3,4] [(2,[0,8,10])]) K) (Sq35_n3 i v')) (fun y => outq35_n3 i K y) := by kernel_rfl
theorem GNq35_n3_ok : CSum Tryz.prog 106 (.loop Lq35_n3) (sumL decq35_n3 stepDq35_n3 outq35_n3) := csum_loop mixed tabOk envq35Ok 0 (exk [0,8,10] [2,3,4] [(2,[0,8,10])]) annLq35_n3_ok decq35_n3_ok stepq35_n3_ok stepq35_n3_nat
noncomputable def Gq35_n3 : (Ex → St → Ans) → St → Ans := (sumL decq35_n3 stepDq35_n3 outq35_n3)
theorem Gq35_n3_ok : CSum Tryz.prog 106 (.loop Lq35_n3) Gq35_n3 := GNq35_n3_ok
noncomputable def Lq35_n2 : Code := codeAt [1,1,1,1,1,1,1,0,1,0,0] bq35
noncomputable def annLq35_n2 : Ann := .at 0 [0,5,6,8,10,51,52] (.loop .none)
theorem annLq35_n2_ok : AnnOk Tryz.prog 106 (.loop Lq35_n2) annLq35_n2 := annOk_at (annOk_none _ _ _)
abbrev Iq35_n2 := (List UInt8) × (Int) × (Int) × (Int)
abbrev Yq35_n2 := (List UInt8) × (Int) × (List (Int × List UInt8))
abbrev Vq35_n2 := (Int) × (List UInt8) × (Int) × (List (Int × List UInt8))
def Sq35_n2 : Iq35_n2 → Vq35_n2 → St := fun (t0,t5,t8,t51) (t52,o0_0,o0_1,o1) => { env := [(0,.str t0),(5,.int .i64 t5),(6,.ptr 0 0),(8,.int .i64 t8),(10,.own 1),(51,.int .i64 t51),(52,.int .i64 t52)],stk := [[]],H := [.cells [.str o0_0,.int .i64 o0_1],.arr (.st (.pair (.int .i64) .str)) o1],blk := 1069056 }
def decPq35_n2 (s : St) : Option {x : Iq35_n2 × Vq35_n2 // s = Sq35_n2 x.1 x.2} := match s with
  | { env := [(0,.str t0),(5,.int .i64 t5),(6,.ptr 0 0),(8,.int .i64 t8),(10,.own 1),(51,.int .i64 t51),(52,.int .i64 t52)],stk := [[]],H := [.cells [.str o0_0,.int .i64 o0_1],.arr (.st (.pair (.int .i64) .str)) o1],blk := 1069056 } => some ⟨((t0,t5,t8,t51),(t52,o0_0,o0_1,o1)),rfl⟩
  | _ => none
def decq35_n2 (s : St) : Option (Iq35_n2 × Vq35_n2) := pk (decPq35_n2 s)
theorem decq35_n2_ok (s : St) (x : Iq35_n2 × Vq35_n2) (h : decq35_n2 s = some x) : s = Sq35_n2 x.1 x.2 := pk_ok (o := decPq35_n2 s) h
def outq35_n2 : Iq35_n2 → (Ex → St → Ans) → Yq35_n2 → Ans := fun (t0,t5,t8,t51) K => unP fun o0_0_y => unP fun o0_1_y o1_y => K (Ex.exit 0) { env := [(0,.str t0),(5,.int .i64 t5),(6,.ptr 0 0),(8,.int .i64 t8),(10,.own 1)],stk := [[]],H := [.cells [.str o0_0_y,.int .i64 o0_1_y],.arr (.st (.pair (.int .i64) .str)) o1_y],blk := 1069056 }
def stepq35_n2 {β : Type} : Iq35_n2 → Vq35_n2 → (Vq35_n2 → Option β) → (Yq35_n2 → Option β) → Option β := fun (t0,t5,t8,t51) (t52,o0_0,o0_1,o1) next exit => (bif decide (t52 < t51) then (bindO (fnDq18 ((2 : Int),o0_0,o0_1)) (unP fun r => unP fun o0_0_2 o0_1_2 => (bif Nat.ble ((List.length o1 + List.length [(r,nilL UInt8)]) * (24 : Nat)) (140737488355328 : Nat) then (next (IntKind.wrap .i64 (t52 + (1 : Int)),o0_0_2,o0_1_2,o1 ++ [(r,[])])) else none))) else (exit (o0_0,o0_1,o1)))
def stepDq35_n2 (i : Iq35_n2) (v : Vq35_n2) : Option (Vq35_n2 ⊕ Yq35_n2) := stepq35_n2 i v (fun v => some (.inl v)) (fun y => some (.inr y))
theorem stepq35_n2_nat (i : Iq35_n2) (v : Vq35_n2) (next : Vq35_n2 → Ans) (exit : Yq35_n2 → Ans) : stepq35_n2 i v next exit = bindO (stepDq35_n2 i v) (Sum.elim next exit) := by
  obtain ⟨t0,t5,t8,t51⟩ := i
  obtain ⟨t52,o0_0,o0_1,o1⟩ := v
  simp only [stepDq35_n2,stepq35_n2,bindO_cond,bindO_assoc,bindO_none,bindO_pure,bindO_elim,bindO_unP,bindO_empty,Sum.elim_inl,Sum.elim_inr]
theorem stepq35_n2_ok (n : Nat) (i : Iq35_n2) (v : Vq35_n2) (K : Ex → St → Ans) : codeI Tryz.tab envq35 noHint (codeD Tryz.tab envq35 noHint 0 64) (n+1) 106 annLq35_n2 (.loop Lq35_n2) (weakP 0 (exk [0,5,6,8,10] [2,3,4] [(0,[0,5,6,8,10])]) K) (Sq35_n2 i v) = stepq35_n2 i v (fun v' => codeI Tryz.tab envq35 noHint (codeD Tryz.tab envq35 noHint 0 64) n 106 annLq35_n2 (.loop Lq35_n2) (weakP 0 (exk [0,5,6,8,10] [2,3,4] [(0,[0,5,6,8,10])]) K) (Sq35_n2 i v')) (fun y => outq35_n2 i K y) := by kernel_rfl
theorem GNq35_n2_ok : CSum Tryz.prog 106 (.loop Lq35_n2) (sumL decq35_n2 stepDq35_n2 outq35_n2) := csum_loop mixed tabOk envq35Ok 0 (exk [0,5,6,8,10] [2,3,4] [(0,[0,5,6,8,10])]) annLq35_n2_ok decq35_n2_ok stepq35_n2_ok stepq35_n2_nat
noncomputable def Gq35_n2 : (Ex → St → Ans) → St → Ans := (sumL decq35_n2 stepDq35_n2 outq35_n2)
theorem Gq35_n2_ok : CSum Tryz.prog 106 (.loop Lq35_n2) Gq35_n2 := GNq35_n2_ok
noncomputable def Lq35_n1 : Code := codeAt [1,1,1,1,1,0,0] bq35
noncomputable def annLq35_n1 : Ann := .none
theorem annLq35_n1_ok : AnnOk Tryz.prog 106 Lq35_n1 annLq35_n1 := (annOk_none _ _ _)
abbrev Iq35_n1 := (List UInt8) × (Int) × (List UInt8) × (Int) × (Int) × (List UInt8) × (Int)
abbrev Yq35_n1 := (Bool)
def Sq35_n1 : Iq35_n1 → St := fun (t0,t5,t7,t8,t9,o0_0,o0_1) => { env := [(0,.str t0),(5,.int .i64 t5),(6,.ptr 0 0),(7,.str t7),(8,.int .i64 t8),(9,.int .i64 t9)],stk := [[]],H := [.cells [.str o0_0,.int .i64 o0_1]],blk := 1069056 }
def decPq35_n1 (s : St) : Option {x : Iq35_n1 // s = Sq35_n1 x} := match s with
  | { env := [(0,.str t0),(5,.int .i64 t5),(6,.ptr 0 0),(7,.str t7),(8,.int .i64 t8),(9,.int .i64 t9)],stk := [[]],H := [.cells [.str o0_0,.int .i64 o0_1]],blk := 1069056 } => some ⟨(t0,t5,t7,t8,t9,o0_0,o0_1),rfl⟩
  | _ => none
def decq35_n1 (s : St) : Option Iq35_n1 := pk (decPq35_n1 s)
theorem decq35_n1_ok (s : St) (x : Iq35_n1) (h : decq35_n1 s = some x) : s = Sq35_n1 x := pk_ok (o := decPq35_n1 s) h
def outq35_n1 : Iq35_n1 → (Ex → St → Ans) → Yq35_n1 → Ans := fun (t0,t5,t7,t8,t9,o0_0,o0_1) K => fun t50_y => K (Ex.norm) { env := [(0,.str t0),(5,.int .i64 t5),(6,.ptr 0 0),(8,.int .i64 t8),(50,.bool t50_y)],stk := [[]],H := [.cells [.str o0_0,.int .i64 o0_1]],blk := 1069056 }
def nodeq35_n1 {β : Type} : Iq35_n1 → (Yq35_n1 → Option β) → Option β := fun (t0,t5,t7,t8,t9,o0_0,o0_1) exit => (bif !t7 == [(82 : UInt8)] then (exit (true)) else (bif t9 != t5 then (exit (true)) else (bif decide (t5 < (1 : Int)) then (exit (true)) else (exit (decide (t5 > (16 : Int)))))))
def nodeDq35_n1 (i : Iq35_n1) : Option Yq35_n1 := nodeq35_n1 i some
theorem nodeq35_n1_nat (i : Iq35_n1) (k : Yq35_n1 → Ans) : nodeq35_n1 i k = bindO (nodeDq35_n1 i) k := by
  obtain ⟨t0,t5,t7,t8,t9,o0_0,o0_1⟩ := i
  simp only [nodeDq35_n1,nodeq35_n1,bindO_cond,bindO_assoc,bindO_none,bindO_pure,bindO_elim,bindO_unP,bindO_empty]
theorem nodeq35_n1_ok (i : Iq35_n1) (K : Ex → St → Ans) : codeI Tryz.tab envq35 noHint (codeD Tryz.tab envq35 noHint 0 64) 70 106 annLq35_n1 Lq35_n1 (weakP 0 (exk [0,5,6,8,50] [2,3,4] []) K) (Sq35_n1 i) = nodeq35_n1 i (outq35_n1 i K) := by kernel_rfl
theorem GNq35_n1_ok : CSum Tryz.prog 106 Lq35_n1 (sumN decq35_n1 nodeDq35_n1 outq35_n1) := csum_node mixed tabOk envq35Ok 0 (exk [0,5,6,8,50] [2,3,4] []) annLq35_n1_ok decq35_n1_ok nodeq35_n1_ok nodeq35_n1_nat
noncomputable def Gq35_n1 : (Ex → St → Ans) → St → Ans := (sumN decq35_n1 nodeDq35_n1 outq35_n1)
theorem Gq35_n1_ok : CSum Tryz.prog 106 Lq35_n1 Gq35_n1 := GNq35_n1_ok
noncomputable def Lq35_n0 : Code := codeAt [1,1,0,0] bq35
noncomputable def annLq35_n0 : Ann := .none
theorem annLq35_n0_ok : AnnOk Tryz.prog 106 Lq35_n0 annLq35_n0 := (annOk_none _ _ _)
abbrev Iq35_n0 := (List UInt8) × (Int)
abbrev Yq35_n0 := (Bool)
def Sq35_n0 : Iq35_n0 → St := fun (t0,t5) => { env := [(0,.str t0),(5,.int .i64 t5)],stk := [[]],H := [],blk := 1069056 }
def decPq35_n0 (s : St) : Option {x : Iq35_n0 // s = Sq35_n0 x} := match s with
  | { env := [(0,.str t0),(5,.int .i64 t5)],stk := [[]],H := [],blk := 1069056 } => some ⟨(t0,t5),rfl⟩
  | _ => none
def decq35_n0 (s : St) : Option Iq35_n0 := pk (decPq35_n0 s)
theorem decq35_n0_ok (s : St) (x : Iq35_n0) (h : decq35_n0 s = some x) : s = Sq35_n0 x := pk_ok (o := decPq35_n0 s) h
def outq35_n0 : Iq35_n0 → (Ex → St → Ans) → Yq35_n0 → Ans := fun (t0,t5) K => fun t27_y => K (Ex.norm) { env := [(0,.str t0),(5,.int .i64 t5),(27,.bool t27_y)],stk := [[]],H := [],blk := 1069056 }
def nodeq35_n0 {β : Type} : Iq35_n0 → (Yq35_n0 → Option β) → Option β := fun (t0,t5) exit => (bif decide (t5 < (0 : Int)) then (exit (true)) else (exit (Int.tmod (↑(List.length t0) : Int) (64 : Int) != (0 : Int))))
def nodeDq35_n0 (i : Iq35_n0) : Option Yq35_n0 := nodeq35_n0 i some
theorem nodeq35_n0_nat (i : Iq35_n0) (k : Yq35_n0 → Ans) : nodeq35_n0 i k = bindO (nodeDq35_n0 i) k := by
  obtain ⟨t0,t5⟩ := i
  simp only [nodeDq35_n0,nodeq35_n0,bindO_cond,bindO_assoc,bindO_none,bindO_pure,bindO_elim,bindO_unP,bindO_empty]
theorem nodeq35_n0_ok (i : Iq35_n0) (K : Ex → St → Ans) : codeI Tryz.tab envq35 noHint (codeD Tryz.tab envq35 noHint 0 64) 70 106 annLq35_n0 Lq35_n0 (weakP 0 (exk [0,5,27] [2,3,4] []) K) (Sq35_n0 i) = nodeq35_n0 i (outq35_n0 i K) := by kernel_rfl
theorem GNq35_n0_ok : CSum Tryz.prog 106 Lq35_n0 (sumN decq35_n0 nodeDq35_n0 outq35_n0) := csum_node mixed tabOk envq35Ok 0 (exk [0,5,27] [2,3,4] []) annLq35_n0_ok decq35_n0_ok nodeq35_n0_ok nodeq35_n0_nat
noncomputable def Gq35_n0 : (Ex → St → Ans) → St → Ans := (sumN decq35_n0 nodeDq35_n0 outq35_n0)
theorem Gq35_n0_ok : CSum Tryz.prog 106 Lq35_n0 Gq35_n0 := GNq35_n0_ok
noncomputable def annq35 : Ann := (.seq .none (.seq .none (.seq (.seq (.cut 0 [0,5] Gq35_n0) .none) (.seq .none (.seq .none (.seq (.seq (.cut 0 [0,5,6,7,8,9] Gq35_n1) .none) (.seq .none (.seq (.seq .none (.block (.cut 0 [0,5,6,8,10,51,52] Gq35_n2))) (.seq .none (.seq .none (.seq (.seq .none (.block (.cut 0 [0,8,10,11,77,78] Gq35_n3))) (.seq (.seq .none (.seq (.cut 0 [0,8,10,14,15] Gq35_n4) .none)) .none))))))))))))
theorem annq35_ok : AnnOk Tryz.prog 106 bq35 annq35 := ⟨(annOk_none _ _ _),⟨(annOk_none _ _ _),⟨⟨Gq35_n0_ok,(annOk_none _ _ _)⟩,⟨(annOk_none _ _ _),⟨(annOk_none _ _ _),⟨⟨Gq35_n1_ok,(annOk_none _ _ _)⟩,⟨(annOk_none _ _ _),⟨⟨(annOk_none _ _ _),Gq35_n2_ok⟩,⟨(annOk_none _ _ _),⟨(annOk_none _ _ _),⟨⟨(annOk_none _ _ _),Gq35_n3_ok⟩,⟨⟨(annOk_none _ _ _),⟨Gq35_n4_ok,(annOk_none _ _ _)⟩⟩,(annOk_none _ _ _)⟩⟩⟩⟩⟩⟩⟩⟩⟩⟩⟩⟩
abbrev Aq35 := (List UInt8)
abbrev Yq35 := (Int) × (Int) × (List (Int × List UInt8))
def fnq35 {β : Type} : Aq35 → (Yq35 → Option β) → Option β := fun a0 exit => (bindO (nodeDq35_n0 (a0,IntKind.wrap .i64 (IntKind.wrap .i64 (Int.tdiv (↑(List.length a0) : Int) (64 : Int)) - (1 : Int)))) fun t27 => (bif t27 then (exit ((0 : Int),(12 : Int),[])) else (bindO (fnDq15 (a0)) fun _ => (bindO (fnDq17 ((1 : Int),a0,(0 : Int))) (unP fun r => unP fun o0_0 o0_1 => (bindO (fnDq18 ((6 : Int),o0_0,o0_1)) (unP fun r_2 => unP fun o0_0_2 o0_1_2 => (bindO (fnDq18 ((1 : Int),o0_0_2,o0_1_2)) (unP fun r_3 => unP fun o0_0_3 o0_1_3 => (bindO (nodeDq35_n1 (a0,IntKind.wrap .i64 (IntKind.wrap .i64 (Int.tdiv (↑(List.length a0) : Int) (64 : Int)) - (1 : Int)),r,r_2,r_3,o0_0_3,o0_1_3)) fun t50 => (bif t50 then (exit ((0 : Int),(4 : Int),[])) else (bindO (loopD (stepDq35_n2 (a0,IntKind.wrap .i64 (IntKind.wrap .i64 (Int.tdiv (↑(List.length a0) : Int) (64 : Int)) - (1 : Int)),r_2,IntKind.wrap .i64 (IntKind.wrap .i64 (Int.tdiv (↑(List.length a0) : Int) (64 : Int)) - (1 : Int)))) FUEL ((0 : Int),o0_0_3,o0_1_3,[])) (unP fun o0_0_4 => unP fun o0_1_4 o1 => (bif inR (64 : Int) (List.length a0 + (1 : Nat)) then (bif inR (IntKind.wrap .i64 ((8 : Int) + IntKind.wrap .i64 ((2 : Int) * IntKind.wrap .i64 (IntKind.wrap .i64 (Int.tdiv (↑(List.length a0) : Int) (64 : Int)) - (1 : Int))))) (List.length a0 + (1 : Nat)) then (bindO (fnDq38 (List.take (Int.toNat (IntKind.wrap .i64 ((8 : Int) + IntKind.wrap .i64 ((2 : Int) * IntKind.wrap .i64 (IntKind.wrap .i64 (Int.tdiv (↑(List.length a0) : Int) (64 : Int)) - (1 : Int)))))) a0,List.drop (64 : Nat) a0)) fun r_4 => (bindO (fnDq17 ((↑(List.length r_4) : Int),o0_0_4,o0_1_4)) (unP fun r_5 => unP fun o0_0_5 o0_1_5 => (bif !r_5 == r_4 then (exit ((0 : Int),(5 : Int),[])) else (bindO (loopD (stepDq35_n3 (a0,r_2,List.drop (64 : Nat) a0,(↑(List.length o1) : Int))) FUEL ((0 : Int),o1)) fun o0 => (bindO (fnDq36 (r_2,o0)) (unP fun r_0 r_1 => (bindO (nodeDq35_n4 (a0,r_2,r_0,r_1,o0)) fun t103 => (bif t103 then (exit ((0 : Int),(4 : Int),[])) else (exit (r_2,(0 : Int),o0))))))))))) else none) else none))))))))))))))
def fnDq35 (a : Aq35) : Option Yq35 := fnq35 a some
theorem fnq35_nat (a : Aq35) (k : Yq35 → Ans) : fnq35 a k = bindO (fnDq35 a) k := by
  obtain z := a
  simp only [fnDq35,fnq35,bindO_cond,bindO_assoc,bindO_none,bindO_pure,bindO_elim,bindO_unP,bindO_empty]
def argsq35 : Aq35 → List AV × List AE.Obj := fun a0 => ([.str a0],[])
def decPAq35 (l : List AV) (H : List AE.Obj) : Option {a : Aq35 // (l,H) = argsq35 a} := match l,H with
  | [.str a0],[] => some ⟨(a0),rfl⟩
  | _,_ => none
def decAq35 (l : List AV) (H : List AE.Obj) : Option Aq35 := pk (decPAq35 l H)
theorem decAq35_ok (l : List AV) (H : List AE.Obj) (a : Aq35) (h : decAq35 l H = some a) : (l,H) = argsq35 a := pk_ok (o := decPAq35 l H) h
def outq35 : Aq35 → (AV → List AE.Obj → Ans) → Yq35 → Ans := fun a0 K => unP fun r_0_y => unP fun r_2_y o0_y => K (.tup [.int .i64 r_0_y,.own 0,.int .i64 r_2_y]) [.arr (.st (.pair (.int .i64) .str)) o0_y]
theorem fnq35_ok (a : Aq35) (K : AV → List AE.Obj → Ans) : fnE Tryz.tab envq35 noHint 0 70 261 Tryz.f261.ntmps Tryz.f261.results.toList annq35 bq35 (argsq35 a).1 (argsq35 a).2 K = fnq35 a (outq35 a K) := by kernel_rfl
def vFq35 (a : Aq35) (K : AV → List AE.Obj → Ans) : Ans := bindO (fnDq35 a) fun y => outq35 a K y
def Fq35 : List AV → List AE.Obj → (AV → List AE.Obj → Ans) → Ans := fun l H K => bindO (decAq35 l H) fun a => vFq35 a K
theorem Fq35_ok : FuncOk Tryz.prog 261 Fq35 := func_mkD (hint := noHint) (d := 0) (n := 70) mixed tabOk envq35Ok Tryz.func261 (bodySome (by kernel_rfl)) (by decide +kernel) annq35_ok decAq35_ok fnq35_ok fnq35_nat
--@ shadow_Shadow_string_made
noncomputable def envq67 : Env := []
theorem envq67Ok : EnvOk Tryz.prog envq67 := EnvOk.nil
noncomputable def bq67 : Code := Tryz.f162.body.getD .skip
noncomputable def Lq67_n0 : Code := codeAt [0,1] bq67
noncomputable def annLq67_n0 : Ann := .none
theorem annLq67_n0_ok : AnnOk Tryz.prog 20 Lq67_n0 annLq67_n0 := (annOk_none _ _ _)
abbrev Iq67_n0 := (List (Int × List UInt8)) × (List (Int × List UInt8))
abbrev Yq67_n0 := Unit
def Sq67_n0 : Iq67_n0 → St := fun (o1,o2) => { env := [(0,.ptr 0 0),(6,.bool (false))],stk := [[(0,.ptr 0 0),(1,.map 1),(2,.map 2)]],H := [.cells [.map 1,.map 2],.mp .i64 .str o1,.mp .i64 .str o2],blk := 663552 }
def decPq67_n0 (s : St) : Option {x : Iq67_n0 // s = Sq67_n0 x} := match s with
  | { env := [(0,.ptr 0 0),(6,.bool r0)],stk := [[(0,.ptr 0 0),(1,.map 1),(2,.map 2)]],H := [.cells [.map 1,.map 2],.mp .i64 .str o1,.mp .i64 .str o2],blk := 663552 } => if h0 : r0 = false then some ⟨(o1,o2),by subst h0; rfl⟩ else none
  | _ => none
def decq67_n0 (s : St) : Option Iq67_n0 := pk (decPq67_n0 s)
theorem decq67_n0_ok (s : St) (x : Iq67_n0) (h : decq67_n0 s = some x) : s = Sq67_n0 x := pk_ok (o := decPq67_n0 s) h
def outq67_n0 : Iq67_n0 → (Ex → St → Ans) → Yq67_n0 → Ans := fun (o1,o2) K => fun _ => K (Ex.norm) { env := [(0,.ptr 0 0)],stk := [[(0,.ptr 0 0),(1,.map 1),(2,.map 2)]],H := [.cells [.map 1,.map 2],.mp .i64 .str o1,.mp .i64 .str o2],blk := 663552 }
def nodeq67_n0 {β : Type} : Iq67_n0 → (Yq67_n0 → Option β) → Option β := fun (o1,o2) exit => (exit ())
def nodeDq67_n0 (i : Iq67_n0) : Option Yq67_n0 := nodeq67_n0 i some
theorem nodeq67_n0_nat (i : Iq67_n0) (k : Yq67_n0 → Ans) : nodeq67_n0 i k = bindO (nodeDq67_n0 i) k := by
  obtain ⟨o1,o2⟩ := i
  simp only [nodeDq67_n0,nodeq67_n0,bindO_cond,bindO_assoc,bindO_none,bindO_pure,bindO_elim,bindO_unP,bindO_empty]
theorem nodeq67_n0_ok (i : Iq67_n0) (K : Ex → St → Ans) : codeI Tryz.tab envq67 noHint (codeD Tryz.tab envq67 noHint 0 64) 70 20 annLq67_n0 Lq67_n0 (weakP 3 (exk [0] [] []) K) (Sq67_n0 i) = nodeq67_n0 i (outq67_n0 i K) := by kernel_rfl
theorem GNq67_n0_ok : CSum Tryz.prog 20 Lq67_n0 (sumN decq67_n0 nodeDq67_n0 outq67_n0) := csum_node mixed tabOk envq67Ok 3 (exk [0] [] []) annLq67_n0_ok decq67_n0_ok nodeq67_n0_ok nodeq67_n0_nat
noncomputable def Gq67_n0 : (Ex → St → Ans) → St → Ans := (sumN decq67_n0 nodeDq67_n0 outq67_n0)
theorem Gq67_n0_ok : CSum Tryz.prog 20 Lq67_n0 Gq67_n0 := GNq67_n0_ok
noncomputable def annq67 : Ann := (.seq (.seq .none (.cut 3 [0,6] Gq67_n0)) .none)
theorem annq67_ok : AnnOk Tryz.prog 20 bq67 annq67 := ⟨⟨(annOk_none _ _ _),Gq67_n0_ok⟩,(annOk_none _ _ _)⟩
abbrev Aq67 := (List (Int × List UInt8)) × (List (Int × List UInt8))
abbrev Yq67 := Unit
def fnq67 {β : Type} : Aq67 → (Yq67 → Option β) → Option β := fun (o1,o2) exit => (bindO (nodeDq67_n0 (o1,o2)) fun _ => (exit ()))
def fnDq67 (a : Aq67) : Option Yq67 := fnq67 a some
theorem fnq67_nat (a : Aq67) (k : Yq67 → Ans) : fnq67 a k = bindO (fnDq67 a) k := by
  obtain ⟨o1,o2⟩ := a
  simp only [fnDq67,fnq67,bindO_cond,bindO_assoc,bindO_none,bindO_pure,bindO_elim,bindO_unP,bindO_empty]
def argsq67 : Aq67 → List AV × List AE.Obj := fun (o1,o2) => ([.ptr 0 0],[.cells [.map 1,.map 2],.mp .i64 .str o1,.mp .i64 .str o2])
def decPAq67 (l : List AV) (H : List AE.Obj) : Option {a : Aq67 // (l,H) = argsq67 a} := match l,H with
  | [.ptr 0 0],[.cells [.map 1,.map 2],.mp .i64 .str o1,.mp .i64 .str o2] => some ⟨(o1,o2),rfl⟩
  | _,_ => none
def decAq67 (l : List AV) (H : List AE.Obj) : Option Aq67 := pk (decPAq67 l H)
theorem decAq67_ok (l : List AV) (H : List AE.Obj) (a : Aq67) (h : decAq67 l H = some a) : (l,H) = argsq67 a := pk_ok (o := decPAq67 l H) h
def outq67 : Aq67 → (AV → List AE.Obj → Ans) → Yq67 → Ans := fun (o1,o2) K => fun _ => K (.tup []) [.cells [.map 1,.map 2],.mp .i64 .str o1,.mp .i64 .str o2]
theorem fnq67_ok (a : Aq67) (K : AV → List AE.Obj → Ans) : fnE Tryz.tab envq67 noHint 0 70 162 Tryz.f162.ntmps Tryz.f162.results.toList annq67 bq67 (argsq67 a).1 (argsq67 a).2 K = fnq67 a (outq67 a K) := by kernel_rfl
def vFq67 (a : Aq67) (K : AV → List AE.Obj → Ans) : Ans := bindO (fnDq67 a) fun y => outq67 a K y
def Fq67 : List AV → List AE.Obj → (AV → List AE.Obj → Ans) → Ans := fun l H K => bindO (decAq67 l H) fun a => vFq67 a K
theorem Fq67_ok : FuncOk Tryz.prog 162 Fq67 := func_mkD (hint := noHint) (d := 0) (n := 70) mixed tabOk envq67Ok Tryz.func162 (bodySome (by kernel_rfl)) (by decide +kernel) annq67_ok decAq67_ok fnq67_ok fnq67_nat
--@ shadow_Shadow_string_Put
noncomputable def envq66 : Env := [(162,.func Fq67)]
theorem envq66Ok : EnvOk Tryz.prog envq66 := EnvOk.cons Fq67_ok (EnvOk.nil)
noncomputable def bq66 : Code := Tryz.f100.body.getD .skip
noncomputable def annq66 : Ann := .none
theorem annq66_ok : AnnOk Tryz.prog 16 bq66 annq66 := (annOk_none _ _ _)
abbrev Aq66 := (Int) × (List UInt8) × (List (Int × List UInt8)) × (List (Int × List UInt8))
abbrev Yq66 := (List (Int × List UInt8))
def fnq66 {β : Type} : Aq66 → (Yq66 → Option β) → Option β := fun (a1,a2,o1,o2) exit => (bindO (fnDq67 (o1,o2)) fun _ => (exit (mput a1 a2 o2)))
def fnDq66 (a : Aq66) : Option Yq66 := fnq66 a some
theorem fnq66_nat (a : Aq66) (k : Yq66 → Ans) : fnq66 a k = bindO (fnDq66 a) k := by
  obtain ⟨a1,a2,o1,o2⟩ := a
  simp only [fnDq66,fnq66,bindO_cond,bindO_assoc,bindO_none,bindO_pure,bindO_elim,bindO_unP,bindO_empty]
def argsq66 : Aq66 → List AV × List AE.Obj := fun (a1,a2,o1,o2) => ([.ptr 0 0,.int .i64 a1,.str a2],[.cells [.map 1,.map 2],.mp .i64 .str o1,.mp .i64 .str o2])
def decPAq66 (l : List AV) (H : List AE.Obj) : Option {a : Aq66 // (l,H) = argsq66 a} := match l,H with
  | [.ptr 0 0,.int .i64 a1,.str a2],[.cells [.map 1,.map 2],.mp .i64 .str o1,.mp .i64 .str o2] => some ⟨(a1,a2,o1,o2),rfl⟩
  | _,_ => none
def decAq66 (l : List AV) (H : List AE.Obj) : Option Aq66 := pk (decPAq66 l H)
theorem decAq66_ok (l : List AV) (H : List AE.Obj) (a : Aq66) (h : decAq66 l H = some a) : (l,H) = argsq66 a := pk_ok (o := decPAq66 l H) h
def outq66 : Aq66 → (AV → List AE.Obj → Ans) → Yq66 → Ans := fun (a1,a2,o1,o2) K => fun o2_y => K (.tup []) [.cells [.map 1,.map 2],.mp .i64 .str o1,.mp .i64 .str o2_y]
theorem fnq66_ok (a : Aq66) (K : AV → List AE.Obj → Ans) : fnE Tryz.tab envq66 noHint 0 70 100 Tryz.f100.ntmps Tryz.f100.results.toList annq66 bq66 (argsq66 a).1 (argsq66 a).2 K = fnq66 a (outq66 a K) := by kernel_rfl
def vFq66 (a : Aq66) (K : AV → List AE.Obj → Ans) : Ans := bindO (fnDq66 a) fun y => outq66 a K y
def Fq66 : List AV → List AE.Obj → (AV → List AE.Obj → Ans) → Ans := fun l H K => bindO (decAq66 l H) fun a => vFq66 a K
theorem Fq66_ok : FuncOk Tryz.prog 100 Fq66 := func_mkD (hint := noHint) (d := 0) (n := 70) mixed tabOk envq66Ok Tryz.func100 (bodySome (by kernel_rfl)) (by decide +kernel) annq66_ok decAq66_ok fnq66_ok fnq66_nat
--@ shadow_layer_string_each
noncomputable def envq68 : Env := []
theorem envq68Ok : EnvOk Tryz.prog envq68 := EnvOk.nil
noncomputable def bq68 : Code := Tryz.f163.body.getD .skip
noncomputable def annq68 : Ann := .none
theorem annq68_ok : AnnOk Tryz.prog 4 bq68 annq68 := (annOk_none _ _ _)
abbrev Aq68 := (List (Int × List UInt8))
abbrev Yq68 := Unit
def fnq68 {β : Type} : Aq68 → (Yq68 → Option β) → Option β := fun o0 exit => (exit ())
def fnDq68 (a : Aq68) : Option Yq68 := fnq68 a some
theorem fnq68_nat (a : Aq68) (k : Yq68 → Ans) : fnq68 a k = bindO (fnDq68 a) k := by
  obtain z := a
  simp only [fnDq68,fnq68,bindO_cond,bindO_assoc,bindO_none,bindO_pure,bindO_elim,bindO_unP,bindO_empty]
def argsq68 : Aq68 → List AV × List AE.Obj := fun o0 => ([.map 0],[.mp .i64 .str o0])
def decPAq68 (l : List AV) (H : List AE.Obj) : Option {a : Aq68 // (l,H) = argsq68 a} := match l,H with
  | [.map 0],[.mp .i64 .str o0] => some ⟨(o0),rfl⟩
  | _,_ => none
def decAq68 (l : List AV) (H : List AE.Obj) : Option Aq68 := pk (decPAq68 l H)
theorem decAq68_ok (l : List AV) (H : List AE.Obj) (a : Aq68) (h : decAq68 l H = some a) : (l,H) = argsq68 a := pk_ok (o := decPAq68 l H) h
def outq68 : Aq68 → (AV → List AE.Obj → Ans) → Yq68 → Ans := fun o0 K => fun _ => K (.fn (Fn.func 205) [] [.ptr 1 0]) [.mp .i64 .str o0,.cells [.map 0]]
theorem fnq68_ok (a : Aq68) (K : AV → List AE.Obj → Ans) : fnE Tryz.tab envq68 noHint 0 70 163 Tryz.f163.ntmps Tryz.f163.results.toList annq68 bq68 (argsq68 a).1 (argsq68 a).2 K = fnq68 a (outq68 a K) := by kernel_rfl
def vFq68 (a : Aq68) (K : AV → List AE.Obj → Ans) : Ans := bindO (fnDq68 a) fun y => outq68 a K y
def Fq68 : List AV → List AE.Obj → (AV → List AE.Obj → Ans) → Ans := fun l H K => bindO (decAq68 l H) fun a => vFq68 a K
theorem Fq68_ok : FuncOk Tryz.prog 163 Fq68 := func_mkD (hint := noHint) (d := 0) (n := 70) mixed tabOk envq68Ok Tryz.func163 (bodySome (by kernel_rfl)) (by decide +kernel) annq68_ok decAq68_ok fnq68_ok fnq68_nat
--@ shadow_Shadow_string_Back
noncomputable def envq59 : Env := []
theorem envq59Ok : EnvOk Tryz.prog envq59 := EnvOk.nil
noncomputable def bq59 : Code := Tryz.f93.body.getD .skip
noncomputable def annq59 : Ann := .none
theorem annq59_ok : AnnOk Tryz.prog 8 bq59 annq59 := (annOk_none _ _ _)
abbrev Aq59 := (List (Int × List UInt8)) × (List (Int × List UInt8))
abbrev Yq59 := Unit
def fnq59 {β : Type} : Aq59 → (Yq59 → Option β) → Option β := fun (o1,o2) exit => (exit ())
def fnDq59 (a : Aq59) : Option Yq59 := fnq59 a some
theorem fnq59_nat (a : Aq59) (k : Yq59 → Ans) : fnq59 a k = bindO (fnDq59 a) k := by
  obtain ⟨o1,o2⟩ := a
  simp only [fnDq59,fnq59,bindO_cond,bindO_assoc,bindO_none,bindO_pure,bindO_elim,bindO_unP,bindO_empty]
def argsq59 : Aq59 → List AV × List AE.Obj := fun (o1,o2) => ([.ptr 0 0],[.cells [.map 1,.map 2],.mp .i64 .str o1,.mp .i64 .str o2])
def decPAq59 (l : List AV) (H : List AE.Obj) : Option {a : Aq59 // (l,H) = argsq59 a} := match l,H with
  | [.ptr 0 0],[.cells [.map 1,.map 2],.mp .i64 .str o1,.mp .i64 .str o2] => some ⟨(o1,o2),rfl⟩
  | _,_ => none
def decAq59 (l : List AV) (H : List AE.Obj) : Option Aq59 := pk (decPAq59 l H)
theorem decAq59_ok (l : List AV) (H : List AE.Obj) (a : Aq59) (h : decAq59 l H = some a) : (l,H) = argsq59 a := pk_ok (o := decPAq59 l H) h
def outq59 : Aq59 → (AV → List AE.Obj → Ans) → Yq59 → Ans := fun (o1,o2) K => fun _ => K (.tup []) [.cells [.map 1,.map 3],.mp .i64 .str o1,.mp .i64 .str o2,.mp .i64 .str ([])]
theorem fnq59_ok (a : Aq59) (K : AV → List AE.Obj → Ans) : fnE Tryz.tab envq59 noHint 0 70 93 Tryz.f93.ntmps Tryz.f93.results.toList annq59 bq59 (argsq59 a).1 (argsq59 a).2 K = fnq59 a (outq59 a K) := by kernel_rfl
def vFq59 (a : Aq59) (K : AV → List AE.Obj → Ans) : Ans := bindO (fnDq59 a) fun y => outq59 a K y
def Fq59 : List AV → List AE.Obj → (AV → List AE.Obj → Ans) → Ans := fun l H K => bindO (decAq59 l H) fun a => vFq59 a K
theorem Fq59_ok : FuncOk Tryz.prog 93 Fq59 := func_mkD (hint := noHint) (d := 0) (n := 70) mixed tabOk envq59Ok Tryz.func93 (bodySome (by kernel_rfl)) (by decide +kernel) annq59_ok decAq59_ok fnq59_ok fnq59_nat
--@ shadow_Shadow_string_Keep
noncomputable def envq63 : Env := [(162,.func Fq67),(163,.func Fq68),(93,.func Fq59),(100205,(.iter (eachBegin .str) (eachNext .str)))]
theorem envq63Ok : EnvOk Tryz.prog envq63 := EnvOk.cons Fq67_ok (EnvOk.cons Fq68_ok (EnvOk.cons Fq59_ok (EnvOk.cons iter205_spec (EnvOk.nil))))
noncomputable def bq63 : Code := Tryz.f104.body.getD .skip
noncomputable def Lq63_n0 : Code := codeAt [1,1,1,0,1,0] bq63
theorem Lq63_n0_eq : Lq63_n0 = .rangeFunc (rfG Lq63_n0) (rfPs Lq63_n0) (rfAs Lq63_n0) (rfC Lq63_n0) := by kernel_rfl
noncomputable def annLq63_n0 : Ann := .at 3 [1,12,23] (.loop .none)
theorem annLq63_n0_ok : cutP Tryz.prog 23 (rfC Lq63_n0) annLq63_n0.fst (AnnOk Tryz.prog 23 (rfC Lq63_n0) annLq63_n0.fst) := (annOk_none _ _ _)
abbrev Iq63_n0 := (List (Int × List UInt8))
abbrev Yq63_n0 := (List (Int × List UInt8))
abbrev Vq63_n0 := (List Int) × (List (Int × List UInt8))
def Sq63_n0 : Iq63_n0 → Vq63_n0 → St := fun o2 (t23,o1) => { env := [(1,.ptr 3 0),(12,.fn (Fn.func 205) [] [.ptr 4 0]),(23,AV.gh t23)],stk := [[(0,.ptr 0 0),(1,.map 1),(2,.map 2)]],H := [.cells [.map 1,.map 2],.mp .i64 .str o1,.mp .i64 .str o2,.cells [.ptr 0 0],.cells [.map 2]],blk := 425984 }
def decPq63_n0 (s : St) : Option {x : Iq63_n0 × Vq63_n0 // s = Sq63_n0 x.1 x.2} := match s with
  | { env := [(1,.ptr 3 0),(12,.fn (Fn.func 205) [] [.ptr 4 0]),(23,AV.gh t23)],stk := [[(0,.ptr 0 0),(1,.map 1),(2,.map 2)]],H := [.cells [.map 1,.map 2],.mp .i64 .str o1,.mp .i64 .str o2,.cells [.ptr 0 0],.cells [.map 2]],blk := 425984 } => some ⟨(o2,(t23,o1)),rfl⟩
  | _ => none
def decq63_n0 (s : St) : Option (Iq63_n0 × Vq63_n0) := pk (decPq63_n0 s)
theorem decq63_n0_ok (s : St) (x : Iq63_n0 × Vq63_n0) (h : decq63_n0 s = some x) : s = Sq63_n0 x.1 x.2 := pk_ok (o := decPq63_n0 s) h
def outq63_n0 : Iq63_n0 → (Ex → St → Ans) → Yq63_n0 → Ans := fun o2 K => fun o1_y => K (Ex.norm) { env := [(1,.ptr 3 0)],stk := [[(0,.ptr 0 0),(1,.map 1),(2,.map 2)]],H := [.cells [.map 1,.map 2],.mp .i64 .str o1_y,.mp .i64 .str o2,.cells [.ptr 0 0]],blk := 425984 }
def stepq63_n0 {β : Type} : Iq63_n0 → Vq63_n0 → (Vq63_n0 → Option β) → (Yq63_n0 → Option β) → Option β := fun o2 (t23,o1) next exit => (bif isNil t23 then (exit (o1)) else (bindO (List.head? t23) fun x => (next (List.tail t23,mput x (mget x [] o2) o1))))
def stepDq63_n0 (i : Iq63_n0) (v : Vq63_n0) : Option (Vq63_n0 ⊕ Yq63_n0) := stepq63_n0 i v (fun v => some (.inl v)) (fun y => some (.inr y))
theorem stepq63_n0_nat (i : Iq63_n0) (v : Vq63_n0) (next : Vq63_n0 → Ans) (exit : Yq63_n0 → Ans) : stepq63_n0 i v next exit = bindO (stepDq63_n0 i v) (Sum.elim next exit) := by
  obtain z := i
  obtain ⟨t23,o1⟩ := v
  simp only [stepDq63_n0,stepq63_n0,bindO_cond,bindO_assoc,bindO_none,bindO_pure,bindO_elim,bindO_unP,bindO_empty,Sum.elim_inl,Sum.elim_inr]
theorem stepq63_n0_ok (n : Nat) (i : Iq63_n0) (v : Vq63_n0) (K : Ex → St → Ans) : codeI Tryz.tab envq63 noHint (codeD Tryz.tab envq63 noHint 0 64) (n+1) 23 (.rnd annLq63_n0) (.rangeFunc (rfG Lq63_n0) (rfPs Lq63_n0) (rfAs Lq63_n0) (rfC Lq63_n0)) (weakP 3 (exk [1] [] []) K) (Sq63_n0 i v) = stepq63_n0 i v (fun v' => codeI Tryz.tab envq63 noHint (codeD Tryz.tab envq63 noHint 0 64) n 23 (.rnd annLq63_n0) (.rangeFunc (rfG Lq63_n0) (rfPs Lq63_n0) (rfAs Lq63_n0) (rfC Lq63_n0)) (weakP 3 (exk [1] [] []) K) (Sq63_n0 i v')) (fun y => outq63_n0 i K y) := by kernel_rfl
theorem GNq63_n0_ok : RH Tryz.tab envq63 23 annLq63_n0 (.rangeFunc (rfG Lq63_n0) (rfPs Lq63_n0) (rfAs Lq63_n0) (rfC Lq63_n0)) 3 (exk [1] [] []) (sumL decq63_n0 stepDq63_n0 outq63_n0) := rh_loop decq63_n0_ok stepq63_n0_ok stepq63_n0_nat
noncomputable def Gq63_n0 : (Ex → St → Ans) → St → Ans := startG envq63 23 3 [1,12,23] (rfG Lq63_n0) (sumL decq63_n0 stepDq63_n0 outq63_n0)
theorem Gq63_n0_ok : CSum Tryz.prog 23 Lq63_n0 Gq63_n0 := csum_rh mixed tabOk envq63Ok [1,12,23] Lq63_n0_eq annLq63_n0_ok GNq63_n0_ok
noncomputable def annq63 : Ann := (.seq .none (.seq .none (.seq .none (.seq (.seq .none (.block (.cut 3 [1,12] Gq63_n0))) .none))))
theorem annq63_ok : AnnOk Tryz.prog 23 bq63 annq63 := ⟨(annOk_none _ _ _),⟨(annOk_none _ _ _),⟨(annOk_none _ _ _),⟨⟨(annOk_none _ _ _),Gq63_n0_ok⟩,(annOk_none _ _ _)⟩⟩⟩⟩
abbrev Aq63 := (List (Int × List UInt8)) × (List (Int × List UInt8))
abbrev Yq63 := (List (Int × List UInt8))
def fnq63 {β : Type} : Aq63 → (Yq63 → Option β) → Option β := fun (o1,o2) exit => (bindO (fnDq67 (o1,o2)) fun _ => (bindO (fnDq68 (o2)) fun _ => (bif Nat.ble (List.length o2) (1000000 : Nat) then (bindO (loopD (stepDq63_n0 (o2)) FUEL (keysOf o2,o1)) fun o1_2 => (bindO (fnDq59 (o1_2,o2)) fun _ => (exit (o1_2)))) else none)))
def fnDq63 (a : Aq63) : Option Yq63 := fnq63 a some
theorem fnq63_nat (a : Aq63) (k : Yq63 → Ans) : fnq63 a k = bindO (fnDq63 a) k := by
  obtain ⟨o1,o2⟩ := a
  simp only [fnDq63,fnq63,bindO_cond,bindO_assoc,bindO_none,bindO_pure,bindO_elim,bindO_unP,bindO_empty]
def argsq63 : Aq63 → List AV × List AE.Obj := fun (o1,o2) => ([.ptr 0 0],[.cells [.map 1,.map 2],.mp .i64 .str o1,.mp .i64 .str o2])
def decPAq63 (l : List AV) (H : List AE.Obj) : Option {a : Aq63 // (l,H) = argsq63 a} := match l,H with
  | [.ptr 0 0],[.cells [.map 1,.map 2],.mp .i64 .str o1,.mp .i64 .str o2] => some ⟨(o1,o2),rfl⟩
  | _,_ => none
def decAq63 (l : List AV) (H : List AE.Obj) : Option Aq63 := pk (decPAq63 l H)
theorem decAq63_ok (l : List AV) (H : List AE.Obj) (a : Aq63) (h : decAq63 l H = some a) : (l,H) = argsq63 a := pk_ok (o := decPAq63 l H) h
def outq63 : Aq63 → (AV → List AE.Obj → Ans) → Yq63 → Ans := fun (o1,o2) K => fun o1_y => K (.tup []) [.cells [.map 1,.map 3],.mp .i64 .str o1_y,.mp .i64 .str o2,.mp .i64 .str ([])]
theorem fnq63_ok (a : Aq63) (K : AV → List AE.Obj → Ans) : fnE Tryz.tab envq63 noHint 0 70 104 Tryz.f104.ntmps Tryz.f104.results.toList annq63 bq63 (argsq63 a).1 (argsq63 a).2 K = fnq63 a (outq63 a K) := by kernel_rfl
def vFq63 (a : Aq63) (K : AV → List AE.Obj → Ans) : Ans := bindO (fnDq63 a) fun y => outq63 a K y
def Fq63 : List AV → List AE.Obj → (AV → List AE.Obj → Ans) → Ans := fun l H K => bindO (decAq63 l H) fun a => vFq63 a K
theorem Fq63_ok : FuncOk Tryz.prog 104 Fq63 := func_mkD (hint := noHint) (d := 0) (n := 70) mixed tabOk envq63Ok Tryz.func104 (bodySome (by kernel_rfl)) (by decide +kernel) annq63_ok decAq63_ok fnq63_ok fnq63_nat
--@ shadow_Shadow_string_Kept
noncomputable def envq64 : Env := [(163,.func Fq68)]
theorem envq64Ok : EnvOk Tryz.prog envq64 := EnvOk.cons Fq68_ok (EnvOk.nil)
noncomputable def bq64 : Code := Tryz.f158.body.getD .skip
noncomputable def annq64 : Ann := .none
theorem annq64_ok : AnnOk Tryz.prog 11 bq64 annq64 := (annOk_none _ _ _)
abbrev Aq64 := (List (Int × List UInt8)) × (List (Int × List UInt8))
abbrev Yq64 := Unit
def fnq64 {β : Type} : Aq64 → (Yq64 → Option β) → Option β := fun (o1,o2) exit => (bindO (fnDq68 (o1)) fun _ => (exit ()))
def fnDq64 (a : Aq64) : Option Yq64 := fnq64 a some
theorem fnq64_nat (a : Aq64) (k : Yq64 → Ans) : fnq64 a k = bindO (fnDq64 a) k := by
  obtain ⟨o1,o2⟩ := a
  simp only [fnDq64,fnq64,bindO_cond,bindO_assoc,bindO_none,bindO_pure,bindO_elim,bindO_unP,bindO_empty]
def argsq64 : Aq64 → List AV × List AE.Obj := fun (o1,o2) => ([.ptr 0 0],[.cells [.map 1,.map 2],.mp .i64 .str o1,.mp .i64 .str o2])
def decPAq64 (l : List AV) (H : List AE.Obj) : Option {a : Aq64 // (l,H) = argsq64 a} := match l,H with
  | [.ptr 0 0],[.cells [.map 1,.map 2],.mp .i64 .str o1,.mp .i64 .str o2] => some ⟨(o1,o2),rfl⟩
  | _,_ => none
def decAq64 (l : List AV) (H : List AE.Obj) : Option Aq64 := pk (decPAq64 l H)
theorem decAq64_ok (l : List AV) (H : List AE.Obj) (a : Aq64) (h : decAq64 l H = some a) : (l,H) = argsq64 a := pk_ok (o := decPAq64 l H) h
def outq64 : Aq64 → (AV → List AE.Obj → Ans) → Yq64 → Ans := fun (o1,o2) K => fun _ => K (.fn (Fn.func 205) [] [.ptr 3 0]) [.cells [.map 1,.map 2],.mp .i64 .str o1,.mp .i64 .str o2,.cells [.map 1]]
theorem fnq64_ok (a : Aq64) (K : AV → List AE.Obj → Ans) : fnE Tryz.tab envq64 noHint 0 70 158 Tryz.f158.ntmps Tryz.f158.results.toList annq64 bq64 (argsq64 a).1 (argsq64 a).2 K = fnq64 a (outq64 a K) := by kernel_rfl
def vFq64 (a : Aq64) (K : AV → List AE.Obj → Ans) : Ans := bindO (fnDq64 a) fun y => outq64 a K y
def Fq64 : List AV → List AE.Obj → (AV → List AE.Obj → Ans) → Ans := fun l H K => bindO (decAq64 l H) fun a => vFq64 a K
theorem Fq64_ok : FuncOk Tryz.prog 158 Fq64 := func_mkD (hint := noHint) (d := 0) (n := 70) mixed tabOk envq64Ok Tryz.func158 (bodySome (by kernel_rfl)) (by decide +kernel) annq64_ok decAq64_ok fnq64_ok fnq64_nat
--@ shadow_Shadow_string_Clear
noncomputable def envq60 : Env := []
theorem envq60Ok : EnvOk Tryz.prog envq60 := EnvOk.nil
noncomputable def bq60 : Code := Tryz.f160.body.getD .skip
noncomputable def annq60 : Ann := .none
theorem annq60_ok : AnnOk Tryz.prog 8 bq60 annq60 := (annOk_none _ _ _)
abbrev Aq60 := (List (Int × List UInt8)) × (List (Int × List UInt8))
abbrev Yq60 := Unit
def fnq60 {β : Type} : Aq60 → (Yq60 → Option β) → Option β := fun (o1,o2) exit => (exit ())
def fnDq60 (a : Aq60) : Option Yq60 := fnq60 a some
theorem fnq60_nat (a : Aq60) (k : Yq60 → Ans) : fnq60 a k = bindO (fnDq60 a) k := by
  obtain ⟨o1,o2⟩ := a
  simp only [fnDq60,fnq60,bindO_cond,bindO_assoc,bindO_none,bindO_pure,bindO_elim,bindO_unP,bindO_empty]
def argsq60 : Aq60 → List AV × List AE.Obj := fun (o1,o2) => ([.ptr 0 0],[.cells [.map 1,.map 2],.mp .i64 .str o1,.mp .i64 .str o2])
def decPAq60 (l : List AV) (H : List AE.Obj) : Option {a : Aq60 // (l,H) = argsq60 a} := match l,H with
  | [.ptr 0 0],[.cells [.map 1,.map 2],.mp .i64 .str o1,.mp .i64 .str o2] => some ⟨(o1,o2),rfl⟩
  | _,_ => none
def decAq60 (l : List AV) (H : List AE.Obj) : Option Aq60 := pk (decPAq60 l H)
theorem decAq60_ok (l : List AV) (H : List AE.Obj) (a : Aq60) (h : decAq60 l H = some a) : (l,H) = argsq60 a := pk_ok (o := decPAq60 l H) h
def outq60 : Aq60 → (AV → List AE.Obj → Ans) → Yq60 → Ans := fun (o1,o2) K => fun _ => K (.tup []) [.cells [.map 3,.map 2],.mp .i64 .str o1,.mp .i64 .str o2,.mp .i64 .str ([])]
theorem fnq60_ok (a : Aq60) (K : AV → List AE.Obj → Ans) : fnE Tryz.tab envq60 noHint 0 70 160 Tryz.f160.ntmps Tryz.f160.results.toList annq60 bq60 (argsq60 a).1 (argsq60 a).2 K = fnq60 a (outq60 a K) := by kernel_rfl
def vFq60 (a : Aq60) (K : AV → List AE.Obj → Ans) : Ans := bindO (fnDq60 a) fun y => outq60 a K y
def Fq60 : List AV → List AE.Obj → (AV → List AE.Obj → Ans) → Ans := fun l H K => bindO (decAq60 l H) fun a => vFq60 a K
theorem Fq60_ok : FuncOk Tryz.prog 160 Fq60 := func_mkD (hint := noHint) (d := 0) (n := 70) mixed tabOk envq60Ok Tryz.func160 (bodySome (by kernel_rfl)) (by decide +kernel) annq60_ok decAq60_ok fnq60_ok fnq60_nat
end Go.Proofs.R7

/- What the functions that JournalCodesCardSaid reaches compute: part 3. -/
import Derived.Test.YtjgghofdajambaaGreatDoorOwnJournalCodesCardSaid2
set_option linter.unusedVariables false
set_option linter.unusedSimpArgs false
namespace Go.Proofs.R7
open Go Go.AE
set_option maxRecDepth 100000
--@ loghead_Newer
noncomputable def envq32 : Env := [(216,.pure Fq30)]
theorem envq32Ok : EnvOk Tryz.prog envq32 := EnvOk.cons Fq30_ok (EnvOk.nil)
noncomputable def bq32 : Code := Tryz.f178.body.getD .skip
noncomputable def Lq32_n2 : Code := codeAt [1,1,1,0,1,0,0,1,1,0,0,1,1,0] bq32
noncomputable def annLq32_n2 : Ann := .none
theorem annLq32_n2_ok : AnnOk Tryz.prog 49 Lq32_n2 annLq32_n2 := (annOk_none _ _ _)
abbrev Iq32_n2 := (Bool) × (Int) × (Int) × (Int) × (Int) × (Int) × (Int) × (Int) × (Int) × (Int) × (List (List UInt8))
abbrev Yq32_n2 := (Bool)
def Sq32_n2 : Iq32_n2 → St := fun (t7,t11,t15,t16,o1_0,o1_1,o1_2,o2_0,o2_1,o2_2,o3) => { env := [(4,.ptr 0 0),(6,.ptr 1 0),(7,.bool t7),(10,.ptr 2 0),(11,.int .i64 t11),(14,.own 3),(15,.int .i64 t15),(16,.int .i64 t16)],stk := [[]],H := [.cells [.int .i64 (0),.int .i64 (0),.int .i64 (0)],.cells [.int .i64 o1_0,.int .i64 o1_1,.int .i64 o1_2],.cells [.int .i64 o2_0,.int .i64 o2_1,.int .i64 o2_2],.arr .str o3],blk := 729089 }
def decPq32_n2 (s : St) : Option {x : Iq32_n2 // s = Sq32_n2 x} := match s with
  | { env := [(4,.ptr 0 0),(6,.ptr 1 0),(7,.bool t7),(10,.ptr 2 0),(11,.int .i64 t11),(14,.own 3),(15,.int .i64 t15),(16,.int .i64 t16)],stk := [[]],H := [.cells [.int .i64 r4,.int .i64 r5,.int .i64 r6],.cells [.int .i64 o1_0,.int .i64 o1_1,.int .i64 o1_2],.cells [.int .i64 o2_0,.int .i64 o2_1,.int .i64 o2_2],.arr .str o3],blk := 729089 } => if h4 : r4 = 0 then if h5 : r5 = 0 then if h6 : r6 = 0 then some ⟨(t7,t11,t15,t16,o1_0,o1_1,o1_2,o2_0,o2_1,o2_2,o3),by subst h4 h5 h6; rfl⟩ else none else none else none
  | _ => none
def decq32_n2 (s : St) : Option Iq32_n2 := pk (decPq32_n2 s)
theorem decq32_n2_ok (s : St) (x : Iq32_n2) (h : decq32_n2 s = some x) : s = Sq32_n2 x := pk_ok (o := decPq32_n2 s) h
def outq32_n2 : Iq32_n2 → (Ex → St → Ans) → Yq32_n2 → Ans := fun (t7,t11,t15,t16,o1_0,o1_1,o1_2,o2_0,o2_1,o2_2,o3) K => fun t42_y => K (Ex.norm) { env := [(4,.ptr 0 0),(6,.ptr 1 0),(7,.bool t7),(10,.ptr 2 0),(14,.own 3),(15,.int .i64 t15),(16,.int .i64 t16),(42,.bool t42_y)],stk := [[]],H := [.cells [.int .i64 (0),.int .i64 (0),.int .i64 (0)],.cells [.int .i64 o1_0,.int .i64 o1_1,.int .i64 o1_2],.cells [.int .i64 o2_0,.int .i64 o2_1,.int .i64 o2_2],.arr .str o3],blk := 729089 }
def nodeq32_n2 {β : Type} : Iq32_n2 → (Yq32_n2 → Option β) → Option β := fun (t7,t11,t15,t16,o1_0,o1_1,o1_2,o2_0,o2_1,o2_2,o3) exit => (bif t11 == (0 : Int) then (bif !t7 then (exit (true)) else (bif !(o2_0 == o1_0 && (o2_1 == o1_1 && (o2_2 == o1_2 && true))) then (exit (decide (o2_0 > o1_0))) else (exit (false)))) else (exit (false)))
def nodeDq32_n2 (i : Iq32_n2) : Option Yq32_n2 := nodeq32_n2 i some
theorem nodeq32_n2_nat (i : Iq32_n2) (k : Yq32_n2 → Ans) : nodeq32_n2 i k = bindO (nodeDq32_n2 i) k := by
  obtain ⟨t7,t11,t15,t16,o1_0,o1_1,o1_2,o2_0,o2_1,o2_2,o3⟩ := i
  simp only [nodeDq32_n2,nodeq32_n2,bindO_cond,bindO_assoc,bindO_none,bindO_pure,bindO_elim,bindO_unP,bindO_empty]
theorem nodeq32_n2_ok (i : Iq32_n2) (K : Ex → St → Ans) : codeI Tryz.tab envq32 noHint (codeD Tryz.tab envq32 noHint 0 64) 70 49 annLq32_n2 Lq32_n2 (weakP 0 (exk [4,6,7,10,14,15,16,42] [4,5] []) K) (Sq32_n2 i) = nodeq32_n2 i (outq32_n2 i K) := by kernel_rfl
theorem GNq32_n2_ok : CSum Tryz.prog 49 Lq32_n2 (sumN decq32_n2 nodeDq32_n2 outq32_n2) := csum_node mixed tabOk envq32Ok 0 (exk [4,6,7,10,14,15,16,42] [4,5] []) annLq32_n2_ok decq32_n2_ok nodeq32_n2_ok nodeq32_n2_nat
noncomputable def Gq32_n2 : (Ex → St → Ans) → St → Ans := (sumN decq32_n2 nodeDq32_n2 outq32_n2)
theorem Gq32_n2_ok : CSum Tryz.prog 49 Lq32_n2 Gq32_n2 := GNq32_n2_ok
noncomputable def Lq32_n1 : Code := codeAt [1,1,1,0,1,0,0,1,1,0] bq32
noncomputable def annLq32_n1 : Ann := (.block (.seq .none (.seq .none (.seq (.cut 0 [4,6,7,10,11,14,15,16] Gq32_n2) .none))))
theorem annLq32_n1_ok : AnnOk Tryz.prog 49 Lq32_n1 annLq32_n1 := ⟨(annOk_none _ _ _),⟨(annOk_none _ _ _),⟨Gq32_n2_ok,(annOk_none _ _ _)⟩⟩⟩
abbrev Iq32_n1 := (Bool) × (Int) × (Int) × (Int) × (Int) × (Int) × (List (List UInt8))
abbrev Yq32_n1 := (Bool) × (Int) × (Int) × (Int)
def Sq32_n1 : Iq32_n1 → St := fun (t7,t15,t16,o1_0,o1_1,o1_2,o2) => { env := [(4,.ptr 0 0),(6,.ptr 1 0),(7,.bool t7),(14,.own 2),(15,.int .i64 t15),(16,.int .i64 t16)],stk := [[]],H := [.cells [.int .i64 (0),.int .i64 (0),.int .i64 (0)],.cells [.int .i64 o1_0,.int .i64 o1_1,.int .i64 o1_2],.arr .str o2],blk := 729088 }
def decPq32_n1 (s : St) : Option {x : Iq32_n1 // s = Sq32_n1 x} := match s with
  | { env := [(4,.ptr 0 0),(6,.ptr 1 0),(7,.bool t7),(14,.own 2),(15,.int .i64 t15),(16,.int .i64 t16)],stk := [[]],H := [.cells [.int .i64 r3,.int .i64 r4,.int .i64 r5],.cells [.int .i64 o1_0,.int .i64 o1_1,.int .i64 o1_2],.arr .str o2],blk := 729088 } => if h3 : r3 = 0 then if h4 : r4 = 0 then if h5 : r5 = 0 then some ⟨(t7,t15,t16,o1_0,o1_1,o1_2,o2),by subst h3 h4 h5; rfl⟩ else none else none else none
  | _ => none
def decq32_n1 (s : St) : Option Iq32_n1 := pk (decPq32_n1 s)
theorem decq32_n1_ok (s : St) (x : Iq32_n1) (h : decq32_n1 s = some x) : s = Sq32_n1 x := pk_ok (o := decPq32_n1 s) h
def outq32_n1 : Iq32_n1 → (Ex → St → Ans) → Yq32_n1 → Ans := fun (t7,t15,t16,o1_0,o1_1,o1_2,o2) K => unP fun t7_y => unP fun o1_0_y => unP fun o1_1_y o1_2_y => K (Ex.norm) { env := [(4,.ptr 0 0),(6,.ptr 1 0),(7,.bool t7_y),(14,.own 2),(15,.int .i64 t15),(16,.int .i64 t16)],stk := [[]],H := [.cells [.int .i64 (0),.int .i64 (0),.int .i64 (0)],.cells [.int .i64 o1_0_y,.int .i64 o1_1_y,.int .i64 o1_2_y],.arr .str o2],blk := 729089 }
def nodeq32_n1 {β : Type} : Iq32_n1 → (Yq32_n1 → Option β) → Option β := fun (t7,t15,t16,o1_0,o1_1,o1_2,o2) exit => (bif inR t16 (List.length o2) then (bindO (o2[Int.toNat t16]?) fun x => (bindO (fnDq30 (x)) (unP fun r_0_0 => unP fun r_0_1 => unP fun r_0_2 r_1 => (bindO (nodeDq32_n2 (t7,r_1,t15,t16,o1_0,o1_1,o1_2,r_0_0,r_0_1,r_0_2,o2)) fun t42 => (bif t42 then (exit (true,r_0_0,r_0_1,r_0_2)) else (exit (t7,o1_0,o1_1,o1_2))))))) else none)
def nodeDq32_n1 (i : Iq32_n1) : Option Yq32_n1 := nodeq32_n1 i some
theorem nodeq32_n1_nat (i : Iq32_n1) (k : Yq32_n1 → Ans) : nodeq32_n1 i k = bindO (nodeDq32_n1 i) k := by
  obtain ⟨t7,t15,t16,o1_0,o1_1,o1_2,o2⟩ := i
  simp only [nodeDq32_n1,nodeq32_n1,bindO_cond,bindO_assoc,bindO_none,bindO_pure,bindO_elim,bindO_unP,bindO_empty]
theorem nodeq32_n1_ok (i : Iq32_n1) (K : Ex → St → Ans) : codeI Tryz.tab envq32 noHint (codeD Tryz.tab envq32 noHint 0 64) 70 49 annLq32_n1 Lq32_n1 (weakP 0 (exk [4,6,7,14,15,16] [4,5] []) K) (Sq32_n1 i) = nodeq32_n1 i (outq32_n1 i K) := by kernel_rfl
theorem GNq32_n1_ok : CSum Tryz.prog 49 Lq32_n1 (sumN decq32_n1 nodeDq32_n1 outq32_n1) := csum_node mixed tabOk envq32Ok 0 (exk [4,6,7,14,15,16] [4,5] []) annLq32_n1_ok decq32_n1_ok nodeq32_n1_ok nodeq32_n1_nat
noncomputable def Gq32_n1 : (Ex → St → Ans) → St → Ans := (sumN decq32_n1 nodeDq32_n1 outq32_n1)
theorem Gq32_n1_ok : CSum Tryz.prog 49 Lq32_n1 Gq32_n1 := GNq32_n1_ok
noncomputable def Lq32_n0 : Code := codeAt [1,1,1,0,1,0,0] bq32
noncomputable def annLq32_n0 : Ann := .at 0 [4,6,7,14,15,16] (.loop (.seq .none (.seq .none (.seq (.cut 0 [4,6,7,14,15,16] Gq32_n1) .none))))
theorem annLq32_n0_ok : AnnOk Tryz.prog 49 (.loop Lq32_n0) annLq32_n0 := annOk_at ⟨(annOk_none _ _ _),⟨(annOk_none _ _ _),⟨Gq32_n1_ok,(annOk_none _ _ _)⟩⟩⟩
abbrev Iq32_n0 := (Int) × (List (List UInt8))
abbrev Yq32_n0 := (Bool) × (Int) × (Int) × (Int)
abbrev Vq32_n0 := (Bool) × (Int) × (Int) × (Int) × (Int)
def Sq32_n0 : Iq32_n0 → Vq32_n0 → St := fun (t15,o2) (t7,t16,o1_0,o1_1,o1_2) => { env := [(4,.ptr 0 0),(6,.ptr 1 0),(7,.bool t7),(14,.own 2),(15,.int .i64 t15),(16,.int .i64 t16)],stk := [[]],H := [.cells [.int .i64 (0),.int .i64 (0),.int .i64 (0)],.cells [.int .i64 o1_0,.int .i64 o1_1,.int .i64 o1_2],.arr .str o2],blk := 729088 }
def decPq32_n0 (s : St) : Option {x : Iq32_n0 × Vq32_n0 // s = Sq32_n0 x.1 x.2} := match s with
  | { env := [(4,.ptr 0 0),(6,.ptr 1 0),(7,.bool t7),(14,.own 2),(15,.int .i64 t15),(16,.int .i64 t16)],stk := [[]],H := [.cells [.int .i64 r3,.int .i64 r4,.int .i64 r5],.cells [.int .i64 o1_0,.int .i64 o1_1,.int .i64 o1_2],.arr .str o2],blk := 729088 } => if h3 : r3 = 0 then if h4 : r4 = 0 then if h5 : r5 = 0 then some ⟨((t15,o2),(t7,t16,o1_0,o1_1,o1_2)),by subst h3 h4 h5; rfl⟩ else none else none else none
  | _ => none
def decq32_n0 (s : St) : Option (Iq32_n0 × Vq32_n0) := pk (decPq32_n0 s)
theorem decq32_n0_ok (s : St) (x : Iq32_n0 × Vq32_n0) (h : decq32_n0 s = some x) : s = Sq32_n0 x.1 x.2 := pk_ok (o := decPq32_n0 s) h
def outq32_n0 : Iq32_n0 → (Ex → St → Ans) → Yq32_n0 → Ans := fun (t15,o2) K => unP fun t7_y => unP fun o1_0_y => unP fun o1_1_y o1_2_y => K (Ex.exit 0) { env := [(4,.ptr 0 0),(6,.ptr 1 0),(7,.bool t7_y)],stk := [[]],H := [.cells [.int .i64 (0),.int .i64 (0),.int .i64 (0)],.cells [.int .i64 o1_0_y,.int .i64 o1_1_y,.int .i64 o1_2_y]],blk := 729088 }
def stepq32_n0 {β : Type} : Iq32_n0 → Vq32_n0 → (Vq32_n0 → Option β) → (Yq32_n0 → Option β) → Option β := fun (t15,o2) (t7,t16,o1_0,o1_1,o1_2) next exit => (bif decide (t16 < t15) then (bindO (nodeDq32_n1 (t7,t15,t16,o1_0,o1_1,o1_2,o2)) (unP fun t7_2 => unP fun o1_0_2 => unP fun o1_1_2 o1_2_2 => (next (t7_2,IntKind.wrap .i64 (t16 + (1 : Int)),o1_0_2,o1_1_2,o1_2_2)))) else (exit (t7,o1_0,o1_1,o1_2)))
def stepDq32_n0 (i : Iq32_n0) (v : Vq32_n0) : Option (Vq32_n0 ⊕ Yq32_n0) := stepq32_n0 i v (fun v => some (.inl v)) (fun y => some (.inr y))
theorem stepq32_n0_nat (i : Iq32_n0) (v : Vq32_n0) (next : Vq32_n0 → Ans) (exit : Yq32_n0 → Ans) : stepq32_n0 i v next exit = bindO (stepDq32_n0 i v) (Sum.elim next exit) := by
  obtain ⟨t15,o2⟩ := i
  obtain ⟨t7,t16,o1_0,o1_1,o1_2⟩ := v
  simp only [stepDq32_n0,stepq32_n0,bindO_cond,bindO_assoc,bindO_none,bindO_pure,bindO_elim,bindO_unP,bindO_empty,Sum.elim_inl,Sum.elim_inr]
theorem stepq32_n0_ok (n : Nat) (i : Iq32_n0) (v : Vq32_n0) (K : Ex → St → Ans) : codeI Tryz.tab envq32 noHint (codeD Tryz.tab envq32 noHint 0 64) (n+1) 49 annLq32_n0 (.loop Lq32_n0) (weakP 0 (exk [4,6,7] [4,5] [(0,[4,6,7])]) K) (Sq32_n0 i v) = stepq32_n0 i v (fun v' => codeI Tryz.tab envq32 noHint (codeD Tryz.tab envq32 noHint 0 64) n 49 annLq32_n0 (.loop Lq32_n0) (weakP 0 (exk [4,6,7] [4,5] [(0,[4,6,7])]) K) (Sq32_n0 i v')) (fun y => outq32_n0 i K y) := by kernel_rfl
theorem GNq32_n0_ok : CSum Tryz.prog 49 (.loop Lq32_n0) (sumL decq32_n0 stepDq32_n0 outq32_n0) := csum_loop mixed tabOk envq32Ok 0 (exk [4,6,7] [4,5] [(0,[4,6,7])]) annLq32_n0_ok decq32_n0_ok stepq32_n0_ok stepq32_n0_nat
noncomputable def Gq32_n0 : (Ex → St → Ans) → St → Ans := (sumL decq32_n0 stepDq32_n0 outq32_n0)
theorem Gq32_n0_ok : CSum Tryz.prog 49 (.loop Lq32_n0) Gq32_n0 := GNq32_n0_ok
noncomputable def annq32 : Ann := (.seq .none (.seq .none (.seq .none (.seq (.seq .none (.block (.cut 0 [4,6,7,14,15,16] Gq32_n0))) .none))))
theorem annq32_ok : AnnOk Tryz.prog 49 bq32 annq32 := ⟨(annOk_none _ _ _),⟨(annOk_none _ _ _),⟨(annOk_none _ _ _),⟨⟨(annOk_none _ _ _),Gq32_n0_ok⟩,(annOk_none _ _ _)⟩⟩⟩⟩
abbrev Aq32 := (List UInt8) × (List UInt8)
abbrev Yq32 := (Int) × (Int) × (Int) × (Int)
def fnq32 {β : Type} : Aq32 → (Yq32 → Option β) → Option β := fun (a0,a1) exit => (bindO (loopD (stepDq32_n0 ((↑(List.length [a0,a1]) : Int),[a0,a1])) FUEL (false,(0 : Int),(0 : Int),(0 : Int),(0 : Int))) (unP fun t7 => unP fun o1_0 => unP fun o1_1 o1_2 => (bif !t7 then (exit (o1_0,o1_1,o1_2,(8 : Int))) else (exit (o1_0,o1_1,o1_2,(0 : Int))))))
def fnDq32 (a : Aq32) : Option Yq32 := fnq32 a some
theorem fnq32_nat (a : Aq32) (k : Yq32 → Ans) : fnq32 a k = bindO (fnDq32 a) k := by
  obtain ⟨a0,a1⟩ := a
  simp only [fnDq32,fnq32,bindO_cond,bindO_assoc,bindO_none,bindO_pure,bindO_elim,bindO_unP,bindO_empty]
def argsq32 : Aq32 → List AV := fun (a0,a1) => [.str a0,.str a1]
def decPAq32 (l : List AV) : Option {a : Aq32 // l = argsq32 a} := match l with
  | [.str a0,.str a1] => some ⟨(a0,a1),rfl⟩
  | _ => none
def decAq32 (l : List AV) : Option Aq32 := pk (decPAq32 l)
theorem decAq32_ok (l : List AV) (a : Aq32) (h : decAq32 l = some a) : l = argsq32 a := pk_ok (o := decPAq32 l) h
def rendq32 : Aq32 → Yq32 → AV := fun (a0,a1) => unP fun r_0_0_y => unP fun r_0_1_y => unP fun r_0_2_y r_1_y => .tup [.agg [.int .i64 r_0_0_y,.int .i64 r_0_1_y,.int .i64 r_0_2_y],.int .i64 r_1_y]
theorem rendq32_ok : ∀ (a : Aq32) (y : Yq32),(rendq32 a y).closed1 = true := by
  rintro ⟨a0,a1⟩ y <;> first | rfl | exact Empty.elim y
theorem fnq32_ok (a : Aq32) : fnE Tryz.tab envq32 noHint 0 70 178 Tryz.f178.ntmps Tryz.f178.results.toList annq32 bq32 (argsq32 a) [] (fun v _ => some (v,[])) = fnq32 a (fun y => some (rendq32 a y,[])) := by kernel_rfl
def vFq32 (a : Aq32) (K : AV → Ans) : Ans := bindO (fnDq32 a) fun y => K (rendq32 a y)
def Fq32 : List AV → (AV → Ans) → Ans := fun l K => bindO (decAq32 l) fun a => vFq32 a K
theorem Fq32_ok : PureOk Tryz.prog 178 Fq32 := pure_mkD (hint := noHint) (d := 0) (n := 70) mixed tabOk envq32Ok Tryz.func178 (bodySome (by kernel_rfl)) (by decide +kernel) annq32_ok decAq32_ok fnq32_ok fnq32_nat rendq32_ok
--@ region_Region_Place
noncomputable def envq72 : Env := []
theorem envq72Ok : EnvOk Tryz.prog envq72 := EnvOk.nil
noncomputable def bq72 : Code := Tryz.f209.body.getD .skip
noncomputable def Lq72_n1 : Code := codeAt [1,0,0,1,1,0] bq72
noncomputable def annLq72_n1 : Ann := .none
theorem annLq72_n1_ok : AnnOk Tryz.prog 26 Lq72_n1 annLq72_n1 := (annOk_none _ _ _)
abbrev Iq72_n1 := (Int) × (Int) × (Int) × (Int) × (Int) × (Bool) × (List (List UInt8)) × (List (Int × List UInt8)) × (List (Int × List UInt8)) × (List Int)
abbrev Yq72_n1 := (Bool)
def Sq72_n1 : Iq72_n1 → St := fun (t1,o0_1,o0_2,o1_3,o1_5,o1_6,o2,o3,o4,o5) => { env := [(0,.ptr 0 0),(1,.int .i64 t1)],stk := [[(0,.ptr 0 0),(1,.ptr 1 0),(3,.map 3)]],H := [.cells [.ptr 1 0,.int .i64 o0_1,.int .i64 o0_2],.cells [.own 2,.map 3,.own 4,.int .i64 o1_3,.own 5,.int .i64 o1_5,.bool o1_6],.arr .str o2,.mp .i64 .str o3,.arr (.st (.pair (.int .i64) .str)) o4,.arr (.int .i64) o5],blk := 856064 }
def decPq72_n1 (s : St) : Option {x : Iq72_n1 // s = Sq72_n1 x} := match s with
  | { env := [(0,.ptr 0 0),(1,.int .i64 t1)],stk := [[(0,.ptr 0 0),(1,.ptr 1 0),(3,.map 3)]],H := [.cells [.ptr 1 0,.int .i64 o0_1,.int .i64 o0_2],.cells [.own 2,.map 3,.own 4,.int .i64 o1_3,.own 5,.int .i64 o1_5,.bool o1_6],.arr .str o2,.mp .i64 .str o3,.arr (.st (.pair (.int .i64) .str)) o4,.arr (.int .i64) o5],blk := 856064 } => some ⟨(t1,o0_1,o0_2,o1_3,o1_5,o1_6,o2,o3,o4,o5),rfl⟩
  | _ => none
def decq72_n1 (s : St) : Option Iq72_n1 := pk (decPq72_n1 s)
theorem decq72_n1_ok (s : St) (x : Iq72_n1) (h : decq72_n1 s = some x) : s = Sq72_n1 x := pk_ok (o := decPq72_n1 s) h
def outq72_n1 : Iq72_n1 → (Ex → St → Ans) → Yq72_n1 → Ans := fun (t1,o0_1,o0_2,o1_3,o1_5,o1_6,o2,o3,o4,o5) K => fun t9_y => K (Ex.norm) { env := [(0,.ptr 0 0),(1,.int .i64 t1),(9,.bool t9_y)],stk := [[(0,.ptr 0 0),(1,.ptr 1 0),(3,.map 3)]],H := [.cells [.ptr 1 0,.int .i64 o0_1,.int .i64 o0_2],.cells [.own 2,.map 3,.own 4,.int .i64 o1_3,.own 5,.int .i64 o1_5,.bool o1_6],.arr .str o2,.mp .i64 .str o3,.arr (.st (.pair (.int .i64) .str)) o4,.arr (.int .i64) o5],blk := 856064 }
def nodeq72_n1 {β : Type} : Iq72_n1 → (Yq72_n1 → Option β) → Option β := fun (t1,o0_1,o0_2,o1_3,o1_5,o1_6,o2,o3,o4,o5) exit => (bif decide (t1 < (0 : Int)) then (exit (true)) else (exit (decide (t1 ≥ o0_2))))
def nodeDq72_n1 (i : Iq72_n1) : Option Yq72_n1 := nodeq72_n1 i some
theorem nodeq72_n1_nat (i : Iq72_n1) (k : Yq72_n1 → Ans) : nodeq72_n1 i k = bindO (nodeDq72_n1 i) k := by
  obtain ⟨t1,o0_1,o0_2,o1_3,o1_5,o1_6,o2,o3,o4,o5⟩ := i
  simp only [nodeDq72_n1,nodeq72_n1,bindO_cond,bindO_assoc,bindO_none,bindO_pure,bindO_elim,bindO_unP,bindO_empty]
theorem nodeq72_n1_ok (i : Iq72_n1) (K : Ex → St → Ans) : codeI Tryz.tab envq72 noHint (codeD Tryz.tab envq72 noHint 0 64) 70 26 annLq72_n1 Lq72_n1 (weakP 6 (exk [0,1,9] [4,5] []) K) (Sq72_n1 i) = nodeq72_n1 i (outq72_n1 i K) := by kernel_rfl
theorem GNq72_n1_ok : CSum Tryz.prog 26 Lq72_n1 (sumN decq72_n1 nodeDq72_n1 outq72_n1) := csum_node mixed tabOk envq72Ok 6 (exk [0,1,9] [4,5] []) annLq72_n1_ok decq72_n1_ok nodeq72_n1_ok nodeq72_n1_nat
noncomputable def Gq72_n1 : (Ex → St → Ans) → St → Ans := (sumN decq72_n1 nodeDq72_n1 outq72_n1)
theorem Gq72_n1_ok : CSum Tryz.prog 26 Lq72_n1 Gq72_n1 := GNq72_n1_ok
noncomputable def Lq72_n0 : Code := codeAt [1,0] bq72
noncomputable def annLq72_n0 : Ann := (.block (.seq .none (.cond .none (.seq (.cut 6 [0,1] Gq72_n1) .none))))
theorem annLq72_n0_ok : AnnOk Tryz.prog 26 Lq72_n0 annLq72_n0 := ⟨(annOk_none _ _ _),⟨(annOk_none _ _ _),⟨Gq72_n1_ok,(annOk_none _ _ _)⟩⟩⟩
abbrev Iq72_n0 := (Int) × (Int) × (Int) × (Int) × (Int) × (Bool) × (List (List UInt8)) × (List (Int × List UInt8)) × (List (Int × List UInt8)) × (List Int)
abbrev Yq72_n0 := (Unit) ⊕ (Unit)
def Sq72_n0 : Iq72_n0 → St := fun (t1,o0_1,o0_2,o1_3,o1_5,o1_6,o2,o3,o4,o5) => { env := [(0,.ptr 0 0),(1,.int .i64 t1)],stk := [[(0,.ptr 0 0),(1,.ptr 1 0),(3,.map 3)]],H := [.cells [.ptr 1 0,.int .i64 o0_1,.int .i64 o0_2],.cells [.own 2,.map 3,.own 4,.int .i64 o1_3,.own 5,.int .i64 o1_5,.bool o1_6],.arr .str o2,.mp .i64 .str o3,.arr (.st (.pair (.int .i64) .str)) o4,.arr (.int .i64) o5],blk := 856064 }
def decPq72_n0 (s : St) : Option {x : Iq72_n0 // s = Sq72_n0 x} := match s with
  | { env := [(0,.ptr 0 0),(1,.int .i64 t1)],stk := [[(0,.ptr 0 0),(1,.ptr 1 0),(3,.map 3)]],H := [.cells [.ptr 1 0,.int .i64 o0_1,.int .i64 o0_2],.cells [.own 2,.map 3,.own 4,.int .i64 o1_3,.own 5,.int .i64 o1_5,.bool o1_6],.arr .str o2,.mp .i64 .str o3,.arr (.st (.pair (.int .i64) .str)) o4,.arr (.int .i64) o5],blk := 856064 } => some ⟨(t1,o0_1,o0_2,o1_3,o1_5,o1_6,o2,o3,o4,o5),rfl⟩
  | _ => none
def decq72_n0 (s : St) : Option Iq72_n0 := pk (decPq72_n0 s)
theorem decq72_n0_ok (s : St) (x : Iq72_n0) (h : decq72_n0 s = some x) : s = Sq72_n0 x := pk_ok (o := decPq72_n0 s) h
def outq72_n0 : Iq72_n0 → (Ex → St → Ans) → Yq72_n0 → Ans := fun (t1,o0_1,o0_2,o1_3,o1_5,o1_6,o2,o3,o4,o5) K => (Sum.elim (fun _ => K (Ex.ret) { env := [(4,.int .i64 (0)),(5,.int .i64 (3))],stk := [[(0,.ptr 0 0),(1,.ptr 1 0),(3,.map 3)]],H := [.cells [.ptr 1 0,.int .i64 o0_1,.int .i64 o0_2],.cells [.own 2,.map 3,.own 4,.int .i64 o1_3,.own 5,.int .i64 o1_5,.bool o1_6],.arr .str o2,.mp .i64 .str o3,.arr (.st (.pair (.int .i64) .str)) o4,.arr (.int .i64) o5],blk := 856064 }) (fun _ => K (Ex.norm) { env := [(0,.ptr 0 0),(1,.int .i64 t1)],stk := [[(0,.ptr 0 0),(1,.ptr 1 0),(3,.map 3)]],H := [.cells [.ptr 1 0,.int .i64 o0_1,.int .i64 o0_2],.cells [.own 2,.map 3,.own 4,.int .i64 o1_3,.own 5,.int .i64 o1_5,.bool o1_6],.arr .str o2,.mp .i64 .str o3,.arr (.st (.pair (.int .i64) .str)) o4,.arr (.int .i64) o5],blk := 856064 }))
def nodeq72_n0 {β : Type} : Iq72_n0 → (Yq72_n0 → Option β) → Option β := fun (t1,o0_1,o0_2,o1_3,o1_5,o1_6,o2,o3,o4,o5) exit => (bindO (nodeDq72_n1 (t1,o0_1,o0_2,o1_3,o1_5,o1_6,o2,o3,o4,o5)) fun t9 => (bif t9 then (exit (Sum.inl ())) else (exit (Sum.inr ()))))
def nodeDq72_n0 (i : Iq72_n0) : Option Yq72_n0 := nodeq72_n0 i some
theorem nodeq72_n0_nat (i : Iq72_n0) (k : Yq72_n0 → Ans) : nodeq72_n0 i k = bindO (nodeDq72_n0 i) k := by
  obtain ⟨t1,o0_1,o0_2,o1_3,o1_5,o1_6,o2,o3,o4,o5⟩ := i
  simp only [nodeDq72_n0,nodeq72_n0,bindO_cond,bindO_assoc,bindO_none,bindO_pure,bindO_elim,bindO_unP,bindO_empty]
theorem nodeq72_n0_ok (i : Iq72_n0) (K : Ex → St → Ans) : codeI Tryz.tab envq72 noHint (codeD Tryz.tab envq72 noHint 0 64) 70 26 annLq72_n0 Lq72_n0 (weakP 6 (exk [0,1] [4,5] []) K) (Sq72_n0 i) = nodeq72_n0 i (outq72_n0 i K) := by kernel_rfl
theorem GNq72_n0_ok : CSum Tryz.prog 26 Lq72_n0 (sumN decq72_n0 nodeDq72_n0 outq72_n0) := csum_node mixed tabOk envq72Ok 6 (exk [0,1] [4,5] []) annLq72_n0_ok decq72_n0_ok nodeq72_n0_ok nodeq72_n0_nat
noncomputable def Gq72_n0 : (Ex → St → Ans) → St → Ans := (sumN decq72_n0 nodeDq72_n0 outq72_n0)
theorem Gq72_n0_ok : CSum Tryz.prog 26 Lq72_n0 Gq72_n0 := GNq72_n0_ok
noncomputable def annq72 : Ann := (.seq .none (.seq (.cut 6 [0,1] Gq72_n0) .none))
theorem annq72_ok : AnnOk Tryz.prog 26 bq72 annq72 := ⟨(annOk_none _ _ _),⟨Gq72_n0_ok,(annOk_none _ _ _)⟩⟩
abbrev Aq72 := (Int) × (Int) × (Int) × (Int) × (Int) × (Bool) × (List (List UInt8)) × (List (Int × List UInt8)) × (List (Int × List UInt8)) × (List Int)
abbrev Yq72 := (Int) × (Int)
def fnq72 {β : Type} : Aq72 → (Yq72 → Option β) → Option β := fun (a1,o0_1,o0_2,o1_3,o1_5,o1_6,o2,o3,o4,o5) exit => (bindO (nodeDq72_n0 (a1,o0_1,o0_2,o1_3,o1_5,o1_6,o2,o3,o4,o5)) (Sum.elim (fun _ => (exit ((0 : Int),(3 : Int)))) (fun _ => (exit (IntKind.wrap .i64 (o0_1 + a1),(0 : Int))))))
def fnDq72 (a : Aq72) : Option Yq72 := fnq72 a some
theorem fnq72_nat (a : Aq72) (k : Yq72 → Ans) : fnq72 a k = bindO (fnDq72 a) k := by
  obtain ⟨a1,o0_1,o0_2,o1_3,o1_5,o1_6,o2,o3,o4,o5⟩ := a
  simp only [fnDq72,fnq72,bindO_cond,bindO_assoc,bindO_none,bindO_pure,bindO_elim,bindO_unP,bindO_empty]
def argsq72 : Aq72 → List AV × List AE.Obj := fun (a1,o0_1,o0_2,o1_3,o1_5,o1_6,o2,o3,o4,o5) => ([.ptr 0 0,.int .i64 a1],[.cells [.ptr 1 0,.int .i64 o0_1,.int .i64 o0_2],.cells [.own 2,.map 3,.own 4,.int .i64 o1_3,.own 5,.int .i64 o1_5,.bool o1_6],.arr .str o2,.mp .i64 .str o3,.arr (.st (.pair (.int .i64) .str)) o4,.arr (.int .i64) o5])
def decPAq72 (l : List AV) (H : List AE.Obj) : Option {a : Aq72 // (l,H) = argsq72 a} := match l,H with
  | [.ptr 0 0,.int .i64 a1],[.cells [.ptr 1 0,.int .i64 o0_1,.int .i64 o0_2],.cells [.own 2,.map 3,.own 4,.int .i64 o1_3,.own 5,.int .i64 o1_5,.bool o1_6],.arr .str o2,.mp .i64 .str o3,.arr (.st (.pair (.int .i64) .str)) o4,.arr (.int .i64) o5] => some ⟨(a1,o0_1,o0_2,o1_3,o1_5,o1_6,o2,o3,o4,o5),rfl⟩
  | _,_ => none
def decAq72 (l : List AV) (H : List AE.Obj) : Option Aq72 := pk (decPAq72 l H)
theorem decAq72_ok (l : List AV) (H : List AE.Obj) (a : Aq72) (h : decAq72 l H = some a) : (l,H) = argsq72 a := pk_ok (o := decPAq72 l H) h
def outq72 : Aq72 → (AV → List AE.Obj → Ans) → Yq72 → Ans := fun (a1,o0_1,o0_2,o1_3,o1_5,o1_6,o2,o3,o4,o5) K => unP fun r_0_y r_1_y => K (.tup [.int .i64 r_0_y,.int .i64 r_1_y]) [.cells [.ptr 1 0,.int .i64 o0_1,.int .i64 o0_2],.cells [.own 2,.map 3,.own 4,.int .i64 o1_3,.own 5,.int .i64 o1_5,.bool o1_6],.arr .str o2,.mp .i64 .str o3,.arr (.st (.pair (.int .i64) .str)) o4,.arr (.int .i64) o5]
theorem fnq72_ok (a : Aq72) (K : AV → List AE.Obj → Ans) : fnE Tryz.tab envq72 noHint 0 70 209 Tryz.f209.ntmps Tryz.f209.results.toList annq72 bq72 (argsq72 a).1 (argsq72 a).2 K = fnq72 a (outq72 a K) := by kernel_rfl
def vFq72 (a : Aq72) (K : AV → List AE.Obj → Ans) : Ans := bindO (fnDq72 a) fun y => outq72 a K y
def Fq72 : List AV → List AE.Obj → (AV → List AE.Obj → Ans) → Ans := fun l H K => bindO (decAq72 l H) fun a => vFq72 a K
theorem Fq72_ok : FuncOk Tryz.prog 209 Fq72 := func_mkD (hint := noHint) (d := 0) (n := 70) mixed tabOk envq72Ok Tryz.func209 (bodySome (by kernel_rfl)) (by decide +kernel) annq72_ok decAq72_ok fnq72_ok fnq72_nat
--@ logrec_Size
noncomputable def envq39 : Env := [(129,.func Fq15),(130,.func Fq17),(131,.func Fq18)]
theorem envq39Ok : EnvOk Tryz.prog envq39 := EnvOk.cons Fq15_ok (EnvOk.cons Fq17_ok (EnvOk.cons Fq18_ok (EnvOk.nil)))
noncomputable def bq39 : Code := Tryz.f260.body.getD .skip
noncomputable def Lq39_n0 : Code := codeAt [1,1,1,1,0,0] bq39
noncomputable def annLq39_n0 : Ann := .none
theorem annLq39_n0_ok : AnnOk Tryz.prog 38 Lq39_n0 annLq39_n0 := (annOk_none _ _ _)
abbrev Iq39_n0 := (Int) × (List UInt8) × (Int) × (Int)
abbrev Yq39_n0 := (Bool)
def Sq39_n0 : Iq39_n0 → St := fun (t1,t7,t8,t9) => { env := [(1,.int .i64 t1),(7,.str t7),(8,.int .i64 t8),(9,.int .i64 t9)],stk := [[]],H := [],blk := 1064960 }
def decPq39_n0 (s : St) : Option {x : Iq39_n0 // s = Sq39_n0 x} := match s with
  | { env := [(1,.int .i64 t1),(7,.str t7),(8,.int .i64 t8),(9,.int .i64 t9)],stk := [[]],H := [],blk := 1064960 } => some ⟨(t1,t7,t8,t9),rfl⟩
  | _ => none
def decq39_n0 (s : St) : Option Iq39_n0 := pk (decPq39_n0 s)
theorem decq39_n0_ok (s : St) (x : Iq39_n0) (h : decq39_n0 s = some x) : s = Sq39_n0 x := pk_ok (o := decPq39_n0 s) h
def outq39_n0 : Iq39_n0 → (Ex → St → Ans) → Yq39_n0 → Ans := fun (t1,t7,t8,t9) K => fun t35_y => K (Ex.norm) { env := [(9,.int .i64 t9),(35,.bool t35_y)],stk := [[]],H := [],blk := 1064960 }
def nodeq39_n0 {β : Type} : Iq39_n0 → (Yq39_n0 → Option β) → Option β := fun (t1,t7,t8,t9) exit => (bif !t7 == [(82 : UInt8)] then (exit (true)) else (bif t8 != t1 then (exit (true)) else (bif decide (t9 < (1 : Int)) then (exit (true)) else (exit (decide (t9 > (16 : Int)))))))
def nodeDq39_n0 (i : Iq39_n0) : Option Yq39_n0 := nodeq39_n0 i some
theorem nodeq39_n0_nat (i : Iq39_n0) (k : Yq39_n0 → Ans) : nodeq39_n0 i k = bindO (nodeDq39_n0 i) k := by
  obtain ⟨t1,t7,t8,t9⟩ := i
  simp only [nodeDq39_n0,nodeq39_n0,bindO_cond,bindO_assoc,bindO_none,bindO_pure,bindO_elim,bindO_unP,bindO_empty]
theorem nodeq39_n0_ok (i : Iq39_n0) (K : Ex → St → Ans) : codeI Tryz.tab envq39 noHint (codeD Tryz.tab envq39 noHint 0 64) 70 38 annLq39_n0 Lq39_n0 (weakP 0 (exk [9,35] [4,5] []) K) (Sq39_n0 i) = nodeq39_n0 i (outq39_n0 i K) := by kernel_rfl
theorem GNq39_n0_ok : CSum Tryz.prog 38 Lq39_n0 (sumN decq39_n0 nodeDq39_n0 outq39_n0) := csum_node mixed tabOk envq39Ok 0 (exk [9,35] [4,5] []) annLq39_n0_ok decq39_n0_ok nodeq39_n0_ok nodeq39_n0_nat
noncomputable def Gq39_n0 : (Ex → St → Ans) → St → Ans := (sumN decq39_n0 nodeDq39_n0 outq39_n0)
theorem Gq39_n0_ok : CSum Tryz.prog 38 Lq39_n0 Gq39_n0 := GNq39_n0_ok
noncomputable def annq39 : Ann := (.seq .none (.seq .none (.seq .none (.seq .none (.seq (.seq (.cut 0 [1,7,8,9] Gq39_n0) .none) .none)))))
theorem annq39_ok : AnnOk Tryz.prog 38 bq39 annq39 := ⟨(annOk_none _ _ _),⟨(annOk_none _ _ _),⟨(annOk_none _ _ _),⟨(annOk_none _ _ _),⟨⟨Gq39_n0_ok,(annOk_none _ _ _)⟩,(annOk_none _ _ _)⟩⟩⟩⟩⟩
abbrev Aq39 := (List UInt8) × (Int)
abbrev Yq39 := (Int) × (Int)
def fnq39 {β : Type} : Aq39 → (Yq39 → Option β) → Option β := fun (a0,a1) exit => (bif (↑(List.length a0) : Int) != (64 : Int) then (exit ((0 : Int),(12 : Int))) else (bindO (fnDq15 (a0)) fun _ => (bindO (fnDq17 ((1 : Int),a0,(0 : Int))) (unP fun r => unP fun o0_0 o0_1 => (bindO (fnDq18 ((6 : Int),o0_0,o0_1)) (unP fun r_2 => unP fun o0_0_2 o0_1_2 => (bindO (fnDq18 ((1 : Int),o0_0_2,o0_1_2)) (unP fun r_3 => unP fun o0_0_3 o0_1_3 => (bindO (nodeDq39_n0 (a1,r,r_2,r_3)) fun t35 => (bif t35 then (exit ((0 : Int),(8 : Int))) else (exit (IntKind.wrap .i64 (r_3 + (1 : Int)),(0 : Int)))))))))))))
def fnDq39 (a : Aq39) : Option Yq39 := fnq39 a some
theorem fnq39_nat (a : Aq39) (k : Yq39 → Ans) : fnq39 a k = bindO (fnDq39 a) k := by
  obtain ⟨a0,a1⟩ := a
  simp only [fnDq39,fnq39,bindO_cond,bindO_assoc,bindO_none,bindO_pure,bindO_elim,bindO_unP,bindO_empty]
def argsq39 : Aq39 → List AV := fun (a0,a1) => [.str a0,.int .i64 a1]
def decPAq39 (l : List AV) : Option {a : Aq39 // l = argsq39 a} := match l with
  | [.str a0,.int .i64 a1] => some ⟨(a0,a1),rfl⟩
  | _ => none
def decAq39 (l : List AV) : Option Aq39 := pk (decPAq39 l)
theorem decAq39_ok (l : List AV) (a : Aq39) (h : decAq39 l = some a) : l = argsq39 a := pk_ok (o := decPAq39 l) h
def rendq39 : Aq39 → Yq39 → AV := fun (a0,a1) => unP fun r_0_y r_1_y => .tup [.int .i64 r_0_y,.int .i64 r_1_y]
theorem rendq39_ok : ∀ (a : Aq39) (y : Yq39),(rendq39 a y).closed1 = true := by
  rintro ⟨a0,a1⟩ y <;> first | rfl | exact Empty.elim y
theorem fnq39_ok (a : Aq39) : fnE Tryz.tab envq39 noHint 0 70 260 Tryz.f260.ntmps Tryz.f260.results.toList annq39 bq39 (argsq39 a) [] (fun v _ => some (v,[])) = fnq39 a (fun y => some (rendq39 a y,[])) := by kernel_rfl
def vFq39 (a : Aq39) (K : AV → Ans) : Ans := bindO (fnDq39 a) fun y => K (rendq39 a y)
def Fq39 : List AV → (AV → Ans) → Ans := fun l K => bindO (decAq39 l) fun a => vFq39 a K
theorem Fq39_ok : PureOk Tryz.prog 260 Fq39 := pure_mkD (hint := noHint) (d := 0) (n := 70) mixed tabOk envq39Ok Tryz.func260 (bodySome (by kernel_rfl)) (by decide +kernel) annq39_ok decAq39_ok fnq39_ok fnq39_nat rendq39_ok
--@ logrec_tail
noncomputable def envq40 : Env := [(123,.pure Fq4)]
theorem envq40Ok : EnvOk Tryz.prog envq40 := EnvOk.cons Fq4_ok (EnvOk.nil)
noncomputable def bq40 : Code := Tryz.f165.body.getD .skip
noncomputable def annq40 : Ann := .none
theorem annq40_ok : AnnOk Tryz.prog 9 bq40 annq40 := (annOk_none _ _ _)
abbrev Aq40 := (List UInt8) × (List UInt8)
abbrev Yq40 := (List UInt8)
def fnq40 {β : Type} : Aq40 → (Yq40 → Option β) → Option β := fun (a0,a1) exit => (bif Nat.ble (List.length a0 + List.length a1) (9223372036854775807 : Nat) then (bindO (fnDq4 (a0 ++ a1)) fun r => (exit (r))) else none)
def fnDq40 (a : Aq40) : Option Yq40 := fnq40 a some
theorem fnq40_nat (a : Aq40) (k : Yq40 → Ans) : fnq40 a k = bindO (fnDq40 a) k := by
  obtain ⟨a0,a1⟩ := a
  simp only [fnDq40,fnq40,bindO_cond,bindO_assoc,bindO_none,bindO_pure,bindO_elim,bindO_unP,bindO_empty]
def argsq40 : Aq40 → List AV := fun (a0,a1) => [.str a0,.str a1]
def decPAq40 (l : List AV) : Option {a : Aq40 // l = argsq40 a} := match l with
  | [.str a0,.str a1] => some ⟨(a0,a1),rfl⟩
  | _ => none
def decAq40 (l : List AV) : Option Aq40 := pk (decPAq40 l)
theorem decAq40_ok (l : List AV) (a : Aq40) (h : decAq40 l = some a) : l = argsq40 a := pk_ok (o := decPAq40 l) h
def rendq40 : Aq40 → Yq40 → AV := fun (a0,a1) => fun r_y => .str r_y
theorem rendq40_ok : ∀ (a : Aq40) (y : Yq40),(rendq40 a y).closed1 = true := by
  rintro ⟨a0,a1⟩ y <;> first | rfl | exact Empty.elim y
theorem fnq40_ok (a : Aq40) : fnE Tryz.tab envq40 noHint 0 70 165 Tryz.f165.ntmps Tryz.f165.results.toList annq40 bq40 (argsq40 a) [] (fun v _ => some (v,[])) = fnq40 a (fun y => some (rendq40 a y,[])) := by kernel_rfl
def vFq40 (a : Aq40) (K : AV → Ans) : Ans := bindO (fnDq40 a) fun y => K (rendq40 a y)
def Fq40 : List AV → (AV → Ans) → Ans := fun l K => bindO (decAq40 l) fun a => vFq40 a K
theorem Fq40_ok : PureOk Tryz.prog 165 Fq40 := pure_mkD (hint := noHint) (d := 0) (n := 70) mixed tabOk envq40Ok Tryz.func165 (bodySome (by kernel_rfl)) (by decide +kernel) annq40_ok decAq40_ok fnq40_ok fnq40_nat rendq40_ok
--@ logrec_Check_1
noncomputable def envq36 : Env := []
theorem envq36Ok : EnvOk Tryz.prog envq36 := EnvOk.nil
noncomputable def bq36 : Code := Tryz.f208.body.getD .skip
noncomputable def annq36 : Ann := .none
theorem annq36_ok : AnnOk Tryz.prog 9 bq36 annq36 := (annOk_none _ _ _)
abbrev Aq36 := (Int) × (List UInt8) × (Int) × (List UInt8)
abbrev Yq36 := (Bool)
def fnq36 {β : Type} : Aq36 → (Yq36 → Option β) → Option β := fun (a0_0,a0_1,o0_0,o0_1) exit => (exit (a0_0 == o0_0))
def fnDq36 (a : Aq36) : Option Yq36 := fnq36 a some
theorem fnq36_nat (a : Aq36) (k : Yq36 → Ans) : fnq36 a k = bindO (fnDq36 a) k := by
  obtain ⟨a0_0,a0_1,o0_0,o0_1⟩ := a
  simp only [fnDq36,fnq36,bindO_cond,bindO_assoc,bindO_none,bindO_pure,bindO_elim,bindO_unP,bindO_empty]
def argsq36 : Aq36 → List AV × List AE.Obj := fun (a0_0,a0_1,o0_0,o0_1) => ([.agg [.int .i64 a0_0,.str a0_1],.ptr 0 0],[.cells [.int .i64 o0_0,.str o0_1]])
def decPAq36 (l : List AV) (H : List AE.Obj) : Option {a : Aq36 // (l,H) = argsq36 a} := match l,H with
  | [.agg [.int .i64 a0_0,.str a0_1],.ptr 0 0],[.cells [.int .i64 o0_0,.str o0_1]] => some ⟨(a0_0,a0_1,o0_0,o0_1),rfl⟩
  | _,_ => none
def decAq36 (l : List AV) (H : List AE.Obj) : Option Aq36 := pk (decPAq36 l H)
theorem decAq36_ok (l : List AV) (H : List AE.Obj) (a : Aq36) (h : decAq36 l H = some a) : (l,H) = argsq36 a := pk_ok (o := decPAq36 l H) h
def outq36 : Aq36 → (AV → List AE.Obj → Ans) → Yq36 → Ans := fun (a0_0,a0_1,o0_0,o0_1) K => fun r_y => K (.bool r_y) [.cells [.int .i64 o0_0,.str o0_1]]
theorem fnq36_ok (a : Aq36) (K : AV → List AE.Obj → Ans) : fnE Tryz.tab envq36 noHint 0 70 208 Tryz.f208.ntmps Tryz.f208.results.toList annq36 bq36 (argsq36 a).1 (argsq36 a).2 K = fnq36 a (outq36 a K) := by kernel_rfl
def vFq36 (a : Aq36) (K : AV → List AE.Obj → Ans) : Ans := bindO (fnDq36 a) fun y => outq36 a K y
def Fq36 : List AV → List AE.Obj → (AV → List AE.Obj → Ans) → Ans := fun l H K => bindO (decAq36 l H) fun a => vFq36 a K
theorem Fq36_ok : FuncOk Tryz.prog 208 Fq36 := func_mkD (hint := noHint) (d := 0) (n := 70) mixed tabOk envq36Ok Tryz.func208 (bodySome (by kernel_rfl)) (by decide +kernel) annq36_ok decAq36_ok fnq36_ok fnq36_nat
--@ slices_IndexFunc_api_Sector_api_Sector
noncomputable def envq90 : Env := [(208,.func Fq36)]
theorem envq90Ok : EnvOk Tryz.prog envq90 := EnvOk.cons Fq36_ok (EnvOk.nil)
noncomputable def bq90 : Code := Tryz.f237.body.getD .skip
noncomputable def Lq90_n0 : Code := codeAt [1,0,1,0,0] bq90
noncomputable def annLq90_n0 : Ann := .at 1 [0,1,7,8] (.loop .none)
theorem annLq90_n0_ok : AnnOk Tryz.prog 19 (.loop Lq90_n0) annLq90_n0 := annOk_at (annOk_none _ _ _)
abbrev Iq90_n0 := (List (Int × List UInt8)) × (Int) × (Int) × (List UInt8)
abbrev Yq90_n0 := ((Int)) ⊕ (Unit)
abbrev Vq90_n0 := (Int)
def Sq90_n0 : Iq90_n0 → Vq90_n0 → St := fun (t0,t7,o0_0,o0_1) t8 => { env := [(0,.ro (.st (.pair (.int .i64) .str)) t0),(1,.fn (Fn.func 208) [] [.ptr 0 0]),(7,.int .i64 t7),(8,.int .i64 t8)],stk := [[(0,.ptr 0 0)]],H := [.cells [.int .i64 o0_0,.str o0_1]],blk := 970752 }
def decPq90_n0 (s : St) : Option {x : Iq90_n0 × Vq90_n0 // s = Sq90_n0 x.1 x.2} := match s with
  | { env := [(0,.ro (.st (.pair (.int .i64) .str)) t0),(1,.fn (Fn.func 208) [] [.ptr 0 0]),(7,.int .i64 t7),(8,.int .i64 t8)],stk := [[(0,.ptr 0 0)]],H := [.cells [.int .i64 o0_0,.str o0_1]],blk := 970752 } => some ⟨((t0,t7,o0_0,o0_1),t8),rfl⟩
  | _ => none
def decq90_n0 (s : St) : Option (Iq90_n0 × Vq90_n0) := pk (decPq90_n0 s)
theorem decq90_n0_ok (s : St) (x : Iq90_n0 × Vq90_n0) (h : decq90_n0 s = some x) : s = Sq90_n0 x.1 x.2 := pk_ok (o := decPq90_n0 s) h
def outq90_n0 : Iq90_n0 → (Ex → St → Ans) → Yq90_n0 → Ans := fun (t0,t7,o0_0,o0_1) K => (Sum.elim (fun t4_y => K (Ex.ret) { env := [(4,.int .i64 t4_y)],stk := [[(0,.ptr 0 0)]],H := [.cells [.int .i64 o0_0,.str o0_1]],blk := 970753 }) (fun _ => K (Ex.exit 0) { env := [],stk := [[(0,.ptr 0 0)]],H := [.cells [.int .i64 o0_0,.str o0_1]],blk := 970752 }))
def stepq90_n0 {β : Type} : Iq90_n0 → Vq90_n0 → (Vq90_n0 → Option β) → (Yq90_n0 → Option β) → Option β := fun (t0,t7,o0_0,o0_1) t8 next exit => (bif decide (t8 < t7) then (bindO (nth t0 t8) fun x => (bindO (fnDq36 (x.fst,x.snd,o0_0,o0_1)) fun r => (bif r then (exit (Sum.inl (t8))) else (next (IntKind.wrap .i64 (t8 + (1 : Int))))))) else (exit (Sum.inr ())))
def stepDq90_n0 (i : Iq90_n0) (v : Vq90_n0) : Option (Vq90_n0 ⊕ Yq90_n0) := stepq90_n0 i v (fun v => some (.inl v)) (fun y => some (.inr y))
theorem stepq90_n0_nat (i : Iq90_n0) (v : Vq90_n0) (next : Vq90_n0 → Ans) (exit : Yq90_n0 → Ans) : stepq90_n0 i v next exit = bindO (stepDq90_n0 i v) (Sum.elim next exit) := by
  obtain ⟨t0,t7,o0_0,o0_1⟩ := i
  obtain z := v
  simp only [stepDq90_n0,stepq90_n0,bindO_cond,bindO_assoc,bindO_none,bindO_pure,bindO_elim,bindO_unP,bindO_empty,Sum.elim_inl,Sum.elim_inr]
theorem stepq90_n0_ok (n : Nat) (i : Iq90_n0) (v : Vq90_n0) (K : Ex → St → Ans) : codeI Tryz.tab envq90 noHint (codeD Tryz.tab envq90 noHint 0 64) (n+1) 19 annLq90_n0 (.loop Lq90_n0) (weakP 1 (exk [] [4] [(0,[])]) K) (Sq90_n0 i v) = stepq90_n0 i v (fun v' => codeI Tryz.tab envq90 noHint (codeD Tryz.tab envq90 noHint 0 64) n 19 annLq90_n0 (.loop Lq90_n0) (weakP 1 (exk [] [4] [(0,[])]) K) (Sq90_n0 i v')) (fun y => outq90_n0 i K y) := by kernel_rfl
theorem GNq90_n0_ok : CSum Tryz.prog 19 (.loop Lq90_n0) (sumL decq90_n0 stepDq90_n0 outq90_n0) := csum_loop mixed tabOk envq90Ok 1 (exk [] [4] [(0,[])]) annLq90_n0_ok decq90_n0_ok stepq90_n0_ok stepq90_n0_nat
noncomputable def Gq90_n0 : (Ex → St → Ans) → St → Ans := (sumL decq90_n0 stepDq90_n0 outq90_n0)
theorem Gq90_n0_ok : CSum Tryz.prog 19 (.loop Lq90_n0) Gq90_n0 := GNq90_n0_ok
noncomputable def annq90 : Ann := (.seq .none (.seq (.seq .none (.block (.cut 1 [0,1,7,8] Gq90_n0))) .none))
theorem annq90_ok : AnnOk Tryz.prog 19 bq90 annq90 := ⟨(annOk_none _ _ _),⟨⟨(annOk_none _ _ _),Gq90_n0_ok⟩,(annOk_none _ _ _)⟩⟩
abbrev Aq90 := (List (Int × List UInt8)) × (Int) × (List UInt8)
abbrev Yq90 := (Int)
def fnq90 {β : Type} : Aq90 → (Yq90 → Option β) → Option β := fun (a0,o0_0,o0_1) exit => (bindO (loopD (stepDq90_n0 (a0,(↑(List.length a0) : Int),o0_0,o0_1)) FUEL ((0 : Int))) (Sum.elim (fun t4 => (exit (t4))) (fun _ => (exit ((-1 : Int))))))
def fnDq90 (a : Aq90) : Option Yq90 := fnq90 a some
theorem fnq90_nat (a : Aq90) (k : Yq90 → Ans) : fnq90 a k = bindO (fnDq90 a) k := by
  obtain ⟨a0,o0_0,o0_1⟩ := a
  simp only [fnDq90,fnq90,bindO_cond,bindO_assoc,bindO_none,bindO_pure,bindO_elim,bindO_unP,bindO_empty]
def argsq90 : Aq90 → List AV × List AE.Obj := fun (a0,o0_0,o0_1) => ([.ro (.st (.pair (.int .i64) .str)) a0,.fn (Fn.func 208) [] [.ptr 0 0]],[.cells [.int .i64 o0_0,.str o0_1]])
def decPAq90 (l : List AV) (H : List AE.Obj) : Option {a : Aq90 // (l,H) = argsq90 a} := match l,H with
  | [.ro (.st (.pair (.int .i64) .str)) a0,.fn (Fn.func 208) [] [.ptr 0 0]],[.cells [.int .i64 o0_0,.str o0_1]] => some ⟨(a0,o0_0,o0_1),rfl⟩
  | _,_ => none
def decAq90 (l : List AV) (H : List AE.Obj) : Option Aq90 := pk (decPAq90 l H)
theorem decAq90_ok (l : List AV) (H : List AE.Obj) (a : Aq90) (h : decAq90 l H = some a) : (l,H) = argsq90 a := pk_ok (o := decPAq90 l H) h
def outq90 : Aq90 → (AV → List AE.Obj → Ans) → Yq90 → Ans := fun (a0,o0_0,o0_1) K => fun r_y => K (.int .i64 r_y) [.cells [.int .i64 o0_0,.str o0_1]]
theorem fnq90_ok (a : Aq90) (K : AV → List AE.Obj → Ans) : fnE Tryz.tab envq90 noHint 0 70 237 Tryz.f237.ntmps Tryz.f237.results.toList annq90 bq90 (argsq90 a).1 (argsq90 a).2 K = fnq90 a (outq90 a K) := by kernel_rfl
def vFq90 (a : Aq90) (K : AV → List AE.Obj → Ans) : Ans := bindO (fnDq90 a) fun y => outq90 a K y
def Fq90 : List AV → List AE.Obj → (AV → List AE.Obj → Ans) → Ans := fun l H K => bindO (decAq90 l H) fun a => vFq90 a K
theorem Fq90_ok : FuncOk Tryz.prog 237 Fq90 := func_mkD (hint := noHint) (d := 0) (n := 70) mixed tabOk envq90Ok Tryz.func237 (bodySome (by kernel_rfl)) (by decide +kernel) annq90_ok decAq90_ok fnq90_ok fnq90_nat
--@ slices_ContainsFunc_api_Sector_api_Sector
noncomputable def envq88 : Env := [(237,.func Fq90)]
theorem envq88Ok : EnvOk Tryz.prog envq88 := EnvOk.cons Fq90_ok (EnvOk.nil)
noncomputable def bq88 : Code := Tryz.f207.body.getD .skip
noncomputable def annq88 : Ann := .none
theorem annq88_ok : AnnOk Tryz.prog 9 bq88 annq88 := (annOk_none _ _ _)
abbrev Aq88 := (List (Int × List UInt8)) × (Int) × (List UInt8)
abbrev Yq88 := (Bool)
def fnq88 {β : Type} : Aq88 → (Yq88 → Option β) → Option β := fun (a0,o0_0,o0_1) exit => (bindO (fnDq90 (a0,o0_0,o0_1)) fun r => (exit (decide (r ≥ (0 : Int)))))
def fnDq88 (a : Aq88) : Option Yq88 := fnq88 a some
theorem fnq88_nat (a : Aq88) (k : Yq88 → Ans) : fnq88 a k = bindO (fnDq88 a) k := by
  obtain ⟨a0,o0_0,o0_1⟩ := a
  simp only [fnDq88,fnq88,bindO_cond,bindO_assoc,bindO_none,bindO_pure,bindO_elim,bindO_unP,bindO_empty]
def argsq88 : Aq88 → List AV × List AE.Obj := fun (a0,o0_0,o0_1) => ([.ro (.st (.pair (.int .i64) .str)) a0,.fn (Fn.func 208) [] [.ptr 0 0]],[.cells [.int .i64 o0_0,.str o0_1]])
def decPAq88 (l : List AV) (H : List AE.Obj) : Option {a : Aq88 // (l,H) = argsq88 a} := match l,H with
  | [.ro (.st (.pair (.int .i64) .str)) a0,.fn (Fn.func 208) [] [.ptr 0 0]],[.cells [.int .i64 o0_0,.str o0_1]] => some ⟨(a0,o0_0,o0_1),rfl⟩
  | _,_ => none
def decAq88 (l : List AV) (H : List AE.Obj) : Option Aq88 := pk (decPAq88 l H)
theorem decAq88_ok (l : List AV) (H : List AE.Obj) (a : Aq88) (h : decAq88 l H = some a) : (l,H) = argsq88 a := pk_ok (o := decPAq88 l H) h
def outq88 : Aq88 → (AV → List AE.Obj → Ans) → Yq88 → Ans := fun (a0,o0_0,o0_1) K => fun r_y => K (.bool r_y) [.cells [.int .i64 o0_0,.str o0_1]]
theorem fnq88_ok (a : Aq88) (K : AV → List AE.Obj → Ans) : fnE Tryz.tab envq88 noHint 0 70 207 Tryz.f207.ntmps Tryz.f207.results.toList annq88 bq88 (argsq88 a).1 (argsq88 a).2 K = fnq88 a (outq88 a K) := by kernel_rfl
def vFq88 (a : Aq88) (K : AV → List AE.Obj → Ans) : Ans := bindO (fnDq88 a) fun y => outq88 a K y
def Fq88 : List AV → List AE.Obj → (AV → List AE.Obj → Ans) → Ans := fun l H K => bindO (decAq88 l H) fun a => vFq88 a K
theorem Fq88_ok : FuncOk Tryz.prog 207 Fq88 := func_mkD (hint := noHint) (d := 0) (n := 70) mixed tabOk envq88Ok Tryz.func207 (bodySome (by kernel_rfl)) (by decide +kernel) annq88_ok decAq88_ok fnq88_ok fnq88_nat
--@ logrec_Check
noncomputable def envq35 : Env := [(207,.func Fq88)]
theorem envq35Ok : EnvOk Tryz.prog envq35 := EnvOk.cons Fq88_ok (EnvOk.nil)
noncomputable def bq35 : Code := Tryz.f164.body.getD .skip
noncomputable def Lq35_n2 : Code := codeAt [1,1,0,1,0,0,1,1,0,0,1,0,0] bq35
noncomputable def annLq35_n2 : Ann := .none
theorem annLq35_n2_ok : AnnOk Tryz.prog 41 Lq35_n2 annLq35_n2 := (annOk_none _ _ _)
abbrev Iq35_n2 := (List (Int × List UInt8)) × (Int) × (List (Int × List UInt8)) × (Int) × (Int) × (Int) × (List UInt8)
abbrev Yq35_n2 := (Bool)
def Sq35_n2 : Iq35_n2 → St := fun (t0,t3,t13,t14,t15,o0_0,o0_1) => { env := [(0,.ro (.st (.pair (.int .i64) .str)) t0),(3,.int .i64 t3),(4,.ptr 0 0),(13,.ro (.st (.pair (.int .i64) .str)) t13),(14,.int .i64 t14),(15,.int .i64 t15)],stk := [[]],H := [.cells [.int .i64 o0_0,.str o0_1]],blk := 671747 }
def decPq35_n2 (s : St) : Option {x : Iq35_n2 // s = Sq35_n2 x} := match s with
  | { env := [(0,.ro (.st (.pair (.int .i64) .str)) t0),(3,.int .i64 t3),(4,.ptr 0 0),(13,.ro (.st (.pair (.int .i64) .str)) t13),(14,.int .i64 t14),(15,.int .i64 t15)],stk := [[]],H := [.cells [.int .i64 o0_0,.str o0_1]],blk := 671747 } => some ⟨(t0,t3,t13,t14,t15,o0_0,o0_1),rfl⟩
  | _ => none
def decq35_n2 (s : St) : Option Iq35_n2 := pk (decPq35_n2 s)
theorem decq35_n2_ok (s : St) (x : Iq35_n2) (h : decq35_n2 s = some x) : s = Sq35_n2 x := pk_ok (o := decPq35_n2 s) h
def outq35_n2 : Iq35_n2 → (Ex → St → Ans) → Yq35_n2 → Ans := fun (t0,t3,t13,t14,t15,o0_0,o0_1) K => fun t20_y => K (Ex.norm) { env := [(0,.ro (.st (.pair (.int .i64) .str)) t0),(3,.int .i64 t3),(4,.ptr 0 0),(13,.ro (.st (.pair (.int .i64) .str)) t13),(14,.int .i64 t14),(15,.int .i64 t15),(20,.bool t20_y)],stk := [[]],H := [.cells [.int .i64 o0_0,.str o0_1]],blk := 671747 }
def nodeq35_n2 {β : Type} : Iq35_n2 → (Yq35_n2 → Option β) → Option β := fun (t0,t3,t13,t14,t15,o0_0,o0_1) exit => (bif decide (o0_0 < (0 : Int)) then (exit (true)) else (exit (decide (o0_0 ≥ (1000 : Int)))))
def nodeDq35_n2 (i : Iq35_n2) : Option Yq35_n2 := nodeq35_n2 i some
theorem nodeq35_n2_nat (i : Iq35_n2) (k : Yq35_n2 → Ans) : nodeq35_n2 i k = bindO (nodeDq35_n2 i) k := by
  obtain ⟨t0,t3,t13,t14,t15,o0_0,o0_1⟩ := i
  simp only [nodeDq35_n2,nodeq35_n2,bindO_cond,bindO_assoc,bindO_none,bindO_pure,bindO_elim,bindO_unP,bindO_empty]
theorem nodeq35_n2_ok (i : Iq35_n2) (K : Ex → St → Ans) : codeI Tryz.tab envq35 noHint (codeD Tryz.tab envq35 noHint 0 64) 70 41 annLq35_n2 Lq35_n2 (weakP 0 (exk [0,3,4,13,14,15,20] [2] []) K) (Sq35_n2 i) = nodeq35_n2 i (outq35_n2 i K) := by kernel_rfl
theorem GNq35_n2_ok : CSum Tryz.prog 41 Lq35_n2 (sumN decq35_n2 nodeDq35_n2 outq35_n2) := csum_node mixed tabOk envq35Ok 0 (exk [0,3,4,13,14,15,20] [2] []) annLq35_n2_ok decq35_n2_ok nodeq35_n2_ok nodeq35_n2_nat
noncomputable def Gq35_n2 : (Ex → St → Ans) → St → Ans := (sumN decq35_n2 nodeDq35_n2 outq35_n2)
theorem Gq35_n2_ok : CSum Tryz.prog 41 Lq35_n2 Gq35_n2 := GNq35_n2_ok
noncomputable def Lq35_n1 : Code := codeAt [1,1,0,1,0,0,1,1,0] bq35
noncomputable def annLq35_n1 : Ann := (.block (.seq .none (.block (.seq (.cut 0 [0,3,4,13,14,15] Gq35_n2) .none))))
theorem annLq35_n1_ok : AnnOk Tryz.prog 41 Lq35_n1 annLq35_n1 := ⟨(annOk_none _ _ _),⟨Gq35_n2_ok,(annOk_none _ _ _)⟩⟩
abbrev Iq35_n1 := (List (Int × List UInt8)) × (List (Int × List UInt8)) × (Int) × (Int)
abbrev Yq35_n1 := ((Int)) ⊕ (Unit)
def Sq35_n1 : Iq35_n1 → St := fun (t0,t13,t14,t15) => { env := [(0,.ro (.st (.pair (.int .i64) .str)) t0),(13,.ro (.st (.pair (.int .i64) .str)) t13),(14,.int .i64 t14),(15,.int .i64 t15)],stk := [[]],H := [],blk := 671745 }
def decPq35_n1 (s : St) : Option {x : Iq35_n1 // s = Sq35_n1 x} := match s with
  | { env := [(0,.ro (.st (.pair (.int .i64) .str)) t0),(13,.ro (.st (.pair (.int .i64) .str)) t13),(14,.int .i64 t14),(15,.int .i64 t15)],stk := [[]],H := [],blk := 671745 } => some ⟨(t0,t13,t14,t15),rfl⟩
  | _ => none
def decq35_n1 (s : St) : Option Iq35_n1 := pk (decPq35_n1 s)
theorem decq35_n1_ok (s : St) (x : Iq35_n1) (h : decq35_n1 s = some x) : s = Sq35_n1 x := pk_ok (o := decPq35_n1 s) h
def outq35_n1 : Iq35_n1 → (Ex → St → Ans) → Yq35_n1 → Ans := fun (t0,t13,t14,t15) K => (Sum.elim (fun t2_y => K (Ex.ret) { env := [(2,.int .i64 t2_y)],stk := [[]],H := [],blk := 671747 }) (fun _ => K (Ex.norm) { env := [(0,.ro (.st (.pair (.int .i64) .str)) t0),(13,.ro (.st (.pair (.int .i64) .str)) t13),(14,.int .i64 t14),(15,.int .i64 t15)],stk := [[]],H := [],blk := 671747 }))
def nodeq35_n1 {β : Type} : Iq35_n1 → (Yq35_n1 → Option β) → Option β := fun (t0,t13,t14,t15) exit => (bindO (nth t13 t15) fun x => (bindO (nodeDq35_n2 (t0,t15,t13,t14,t15,x.fst,x.snd)) fun t20 => (bif t20 then (exit (Sum.inl ((3 : Int)))) else (bif (↑(List.length x.snd) : Int) != (64 : Int) then (exit (Sum.inl ((12 : Int)))) else (bif inR t15 (List.length t0 + (1 : Nat)) then (bindO (fnDq88 (List.take (Int.toNat t15) t0,x.fst,x.snd)) fun r => (bif r then (exit (Sum.inl ((9 : Int)))) else (exit (Sum.inr ())))) else none)))))
def nodeDq35_n1 (i : Iq35_n1) : Option Yq35_n1 := nodeq35_n1 i some
theorem nodeq35_n1_nat (i : Iq35_n1) (k : Yq35_n1 → Ans) : nodeq35_n1 i k = bindO (nodeDq35_n1 i) k := by
  obtain ⟨t0,t13,t14,t15⟩ := i
  simp only [nodeDq35_n1,nodeq35_n1,bindO_cond,bindO_assoc,bindO_none,bindO_pure,bindO_elim,bindO_unP,bindO_empty]
theorem nodeq35_n1_ok (i : Iq35_n1) (K : Ex → St → Ans) : codeI Tryz.tab envq35 noHint (codeD Tryz.tab envq35 noHint 0 64) 70 41 annLq35_n1 Lq35_n1 (weakP 0 (exk [0,13,14,15] [2] []) K) (Sq35_n1 i) = nodeq35_n1 i (outq35_n1 i K) := by kernel_rfl
theorem GNq35_n1_ok : CSum Tryz.prog 41 Lq35_n1 (sumN decq35_n1 nodeDq35_n1 outq35_n1) := csum_node mixed tabOk envq35Ok 0 (exk [0,13,14,15] [2] []) annLq35_n1_ok decq35_n1_ok nodeq35_n1_ok nodeq35_n1_nat
noncomputable def Gq35_n1 : (Ex → St → Ans) → St → Ans := (sumN decq35_n1 nodeDq35_n1 outq35_n1)
theorem Gq35_n1_ok : CSum Tryz.prog 41 Lq35_n1 Gq35_n1 := GNq35_n1_ok
noncomputable def Lq35_n0 : Code := codeAt [1,1,0,1,0,0] bq35
noncomputable def annLq35_n0 : Ann := .at 0 [0,13,14,15] (.loop (.seq .none (.seq .none (.seq (.cut 0 [0,13,14,15] Gq35_n1) .none))))
theorem annLq35_n0_ok : AnnOk Tryz.prog 41 (.loop Lq35_n0) annLq35_n0 := annOk_at ⟨(annOk_none _ _ _),⟨(annOk_none _ _ _),⟨Gq35_n1_ok,(annOk_none _ _ _)⟩⟩⟩
abbrev Iq35_n0 := (List (Int × List UInt8)) × (List (Int × List UInt8)) × (Int)
abbrev Yq35_n0 := ((Int)) ⊕ (Unit)
abbrev Vq35_n0 := (Int)
def Sq35_n0 : Iq35_n0 → Vq35_n0 → St := fun (t0,t13,t14) t15 => { env := [(0,.ro (.st (.pair (.int .i64) .str)) t0),(13,.ro (.st (.pair (.int .i64) .str)) t13),(14,.int .i64 t14),(15,.int .i64 t15)],stk := [[]],H := [],blk := 671745 }
def decPq35_n0 (s : St) : Option {x : Iq35_n0 × Vq35_n0 // s = Sq35_n0 x.1 x.2} := match s with
  | { env := [(0,.ro (.st (.pair (.int .i64) .str)) t0),(13,.ro (.st (.pair (.int .i64) .str)) t13),(14,.int .i64 t14),(15,.int .i64 t15)],stk := [[]],H := [],blk := 671745 } => some ⟨((t0,t13,t14),t15),rfl⟩
  | _ => none
def decq35_n0 (s : St) : Option (Iq35_n0 × Vq35_n0) := pk (decPq35_n0 s)
theorem decq35_n0_ok (s : St) (x : Iq35_n0 × Vq35_n0) (h : decq35_n0 s = some x) : s = Sq35_n0 x.1 x.2 := pk_ok (o := decPq35_n0 s) h
def outq35_n0 : Iq35_n0 → (Ex → St → Ans) → Yq35_n0 → Ans := fun (t0,t13,t14) K => (Sum.elim (fun t2_y => K (Ex.ret) { env := [(2,.int .i64 t2_y)],stk := [[]],H := [],blk := 671747 }) (fun _ => K (Ex.exit 1) { env := [],stk := [[]],H := [],blk := 671745 }))
def stepq35_n0 {β : Type} : Iq35_n0 → Vq35_n0 → (Vq35_n0 → Option β) → (Yq35_n0 → Option β) → Option β := fun (t0,t13,t14) t15 next exit => (bif decide (t15 < t14) then (bindO (nodeDq35_n1 (t0,t13,t14,t15)) (Sum.elim (fun t2 => (exit (Sum.inl (t2)))) (fun _ => (next (IntKind.wrap .i64 (t15 + (1 : Int))))))) else (exit (Sum.inr ())))
def stepDq35_n0 (i : Iq35_n0) (v : Vq35_n0) : Option (Vq35_n0 ⊕ Yq35_n0) := stepq35_n0 i v (fun v => some (.inl v)) (fun y => some (.inr y))
theorem stepq35_n0_nat (i : Iq35_n0) (v : Vq35_n0) (next : Vq35_n0 → Ans) (exit : Yq35_n0 → Ans) : stepq35_n0 i v next exit = bindO (stepDq35_n0 i v) (Sum.elim next exit) := by
  obtain ⟨t0,t13,t14⟩ := i
  obtain z := v
  simp only [stepDq35_n0,stepq35_n0,bindO_cond,bindO_assoc,bindO_none,bindO_pure,bindO_elim,bindO_unP,bindO_empty,Sum.elim_inl,Sum.elim_inr]
theorem stepq35_n0_ok (n : Nat) (i : Iq35_n0) (v : Vq35_n0) (K : Ex → St → Ans) : codeI Tryz.tab envq35 noHint (codeD Tryz.tab envq35 noHint 0 64) (n+1) 41 annLq35_n0 (.loop Lq35_n0) (weakP 0 (exk [] [2] [(1,[])]) K) (Sq35_n0 i v) = stepq35_n0 i v (fun v' => codeI Tryz.tab envq35 noHint (codeD Tryz.tab envq35 noHint 0 64) n 41 annLq35_n0 (.loop Lq35_n0) (weakP 0 (exk [] [2] [(1,[])]) K) (Sq35_n0 i v')) (fun y => outq35_n0 i K y) := by kernel_rfl
theorem GNq35_n0_ok : CSum Tryz.prog 41 (.loop Lq35_n0) (sumL decq35_n0 stepDq35_n0 outq35_n0) := csum_loop mixed tabOk envq35Ok 0 (exk [] [2] [(1,[])]) annLq35_n0_ok decq35_n0_ok stepq35_n0_ok stepq35_n0_nat
noncomputable def Gq35_n0 : (Ex → St → Ans) → St → Ans := (sumL decq35_n0 stepDq35_n0 outq35_n0)
theorem Gq35_n0_ok : CSum Tryz.prog 41 (.loop Lq35_n0) Gq35_n0 := GNq35_n0_ok
noncomputable def annq35 : Ann := (.seq .none (.seq .none (.seq (.seq .none (.block (.cut 0 [0,13,14,15] Gq35_n0))) .none)))
theorem annq35_ok : AnnOk Tryz.prog 41 bq35 annq35 := ⟨(annOk_none _ _ _),⟨(annOk_none _ _ _),⟨⟨(annOk_none _ _ _),Gq35_n0_ok⟩,(annOk_none _ _ _)⟩⟩⟩
abbrev Aq35 := (List (Int × List UInt8))
abbrev Yq35 := (Int)
def fnq35 {β : Type} : Aq35 → (Yq35 → Option β) → Option β := fun a0 exit => (bif (↑(List.length a0) : Int) == (0 : Int) then (exit ((8 : Int))) else (bif decide ((↑(List.length a0) : Int) > (16 : Int)) then (exit ((6 : Int))) else (bindO (loopD (stepDq35_n0 (a0,a0,(↑(List.length a0) : Int))) FUEL ((0 : Int))) (Sum.elim (fun t2 => (exit (t2))) (fun _ => (exit ((0 : Int))))))))
def fnDq35 (a : Aq35) : Option Yq35 := fnq35 a some
theorem fnq35_nat (a : Aq35) (k : Yq35 → Ans) : fnq35 a k = bindO (fnDq35 a) k := by
  obtain z := a
  simp only [fnDq35,fnq35,bindO_cond,bindO_assoc,bindO_none,bindO_pure,bindO_elim,bindO_unP,bindO_empty]
def argsq35 : Aq35 → List AV := fun a0 => [.ro (.st (.pair (.int .i64) .str)) a0]
def decPAq35 (l : List AV) : Option {a : Aq35 // l = argsq35 a} := match l with
  | [.ro (.st (.pair (.int .i64) .str)) a0] => some ⟨(a0),rfl⟩
  | _ => none
def decAq35 (l : List AV) : Option Aq35 := pk (decPAq35 l)
theorem decAq35_ok (l : List AV) (a : Aq35) (h : decAq35 l = some a) : l = argsq35 a := pk_ok (o := decPAq35 l) h
def rendq35 : Aq35 → Yq35 → AV := fun a0 => fun r_y => .int .i64 r_y
theorem rendq35_ok : ∀ (a : Aq35) (y : Yq35),(rendq35 a y).closed1 = true := by
  rintro z y <;> first | rfl | exact Empty.elim y
theorem fnq35_ok (a : Aq35) : fnE Tryz.tab envq35 noHint 0 70 164 Tryz.f164.ntmps Tryz.f164.results.toList annq35 bq35 (argsq35 a) [] (fun v _ => some (v,[])) = fnq35 a (fun y => some (rendq35 a y,[])) := by kernel_rfl
def vFq35 (a : Aq35) (K : AV → Ans) : Ans := bindO (fnDq35 a) fun y => K (rendq35 a y)
def Fq35 : List AV → (AV → Ans) → Ans := fun l K => bindO (decAq35 l) fun a => vFq35 a K
theorem Fq35_ok : PureOk Tryz.prog 164 Fq35 := pure_mkD (hint := noHint) (d := 0) (n := 70) mixed tabOk envq35Ok Tryz.func164 (bodySome (by kernel_rfl)) (by decide +kernel) annq35_ok decAq35_ok fnq35_ok fnq35_nat rendq35_ok
--@ logrec_Put
noncomputable def envq38 : Env := [(119,.func (altF decABuilder_String vFBuilder_String FBuilder_StringAgain)),(121,.pure Fq16),(122,.pure Fq70),(118,.func Fq93),(165,.pure Fq40),(164,.pure Fq35)]
theorem envq38Ok : EnvOk Tryz.prog envq38 := EnvOk.cons (func_altF FBuilder_String_ok FBuilder_StringAgain_ok) (EnvOk.cons Fq16_ok (EnvOk.cons Fq70_ok (EnvOk.cons Fq93_ok (EnvOk.cons Fq40_ok (EnvOk.cons Fq35_ok (EnvOk.nil))))))
noncomputable def bq38 : Code := Tryz.f102.body.getD .skip
noncomputable def Lq38_n1 : Code := codeAt [1,1,1,1,1,0,1,0,0] bq38
noncomputable def annLq38_n1 : Ann := .at 0 [7,8,27,28,29] (.loop .none)
theorem annLq38_n1_ok : AnnOk Tryz.prog 49 (.loop Lq38_n1) annLq38_n1 := annOk_at (annOk_none _ _ _)
abbrev Iq38_n1 := (List (Int × List UInt8)) × (Int)
abbrev Yq38_n1 := (List UInt8) × (List Int)
abbrev Vq38_n1 := (List UInt8) × (Int) × (List Int)
def Sq38_n1 : Iq38_n1 → Vq38_n1 → St := fun (t27,t28) (t7,t29,o1) => { env := [(7,.str t7),(8,.ptr 0 0),(27,.ro (.st (.pair (.int .i64) .str)) t27),(28,.int .i64 t28),(29,.int .i64 t29)],stk := [[]],H := [.bcells [.own 1],.arr (.int .u8) o1],blk := 417792 }
def decPq38_n1 (s : St) : Option {x : Iq38_n1 × Vq38_n1 // s = Sq38_n1 x.1 x.2} := match s with
  | { env := [(7,.str t7),(8,.ptr 0 0),(27,.ro (.st (.pair (.int .i64) .str)) t27),(28,.int .i64 t28),(29,.int .i64 t29)],stk := [[]],H := [.bcells [.own 1],.arr (.int .u8) o1],blk := 417792 } => some ⟨((t27,t28),(t7,t29,o1)),rfl⟩
  | _ => none
def decq38_n1 (s : St) : Option (Iq38_n1 × Vq38_n1) := pk (decPq38_n1 s)
theorem decq38_n1_ok (s : St) (x : Iq38_n1 × Vq38_n1) (h : decq38_n1 s = some x) : s = Sq38_n1 x.1 x.2 := pk_ok (o := decPq38_n1 s) h
def outq38_n1 : Iq38_n1 → (Ex → St → Ans) → Yq38_n1 → Ans := fun (t27,t28) K => unP fun t7_y o1_y => K (Ex.exit 0) { env := [(7,.str t7_y),(8,.ptr 0 0)],stk := [[]],H := [.bcells [.own 1],.arr (.int .u8) o1_y],blk := 417792 }
def stepq38_n1 {β : Type} : Iq38_n1 → Vq38_n1 → (Vq38_n1 → Option β) → (Yq38_n1 → Option β) → Option β := fun (t27,t28) (t7,t29,o1) next exit => (bif decide (t29 < t28) then (bindO (nth t27 t29) fun x => (bindO (fnDq16 (t7,x.fst,(2 : Int))) fun r => (bindO (fnDq93 (x.snd,o1)) (unP fun r_0 o1_2 => (next (r,IntKind.wrap .i64 (t29 + (1 : Int)),o1_2)))))) else (exit (t7,o1)))
def stepDq38_n1 (i : Iq38_n1) (v : Vq38_n1) : Option (Vq38_n1 ⊕ Yq38_n1) := stepq38_n1 i v (fun v => some (.inl v)) (fun y => some (.inr y))
theorem stepq38_n1_nat (i : Iq38_n1) (v : Vq38_n1) (next : Vq38_n1 → Ans) (exit : Yq38_n1 → Ans) : stepq38_n1 i v next exit = bindO (stepDq38_n1 i v) (Sum.elim next exit) := by
  obtain ⟨t27,t28⟩ := i
  obtain ⟨t7,t29,o1⟩ := v
  simp only [stepDq38_n1,stepq38_n1,bindO_cond,bindO_assoc,bindO_none,bindO_pure,bindO_elim,bindO_unP,bindO_empty,Sum.elim_inl,Sum.elim_inr]
theorem stepq38_n1_ok (n : Nat) (i : Iq38_n1) (v : Vq38_n1) (K : Ex → St → Ans) : codeI Tryz.tab envq38 noHint (codeD Tryz.tab envq38 noHint 0 64) (n+1) 49 annLq38_n1 (.loop Lq38_n1) (weakP 0 (exk [7,8] [4,5] [(0,[7,8])]) K) (Sq38_n1 i v) = stepq38_n1 i v (fun v' => codeI Tryz.tab envq38 noHint (codeD Tryz.tab envq38 noHint 0 64) n 49 annLq38_n1 (.loop Lq38_n1) (weakP 0 (exk [7,8] [4,5] [(0,[7,8])]) K) (Sq38_n1 i v')) (fun y => outq38_n1 i K y) := by kernel_rfl
theorem GNq38_n1_ok : CSum Tryz.prog 49 (.loop Lq38_n1) (sumL decq38_n1 stepDq38_n1 outq38_n1) := csum_loop mixed tabOk envq38Ok 0 (exk [7,8] [4,5] [(0,[7,8])]) annLq38_n1_ok decq38_n1_ok stepq38_n1_ok stepq38_n1_nat
noncomputable def Gq38_n1 : (Ex → St → Ans) → St → Ans := (sumL decq38_n1 stepDq38_n1 outq38_n1)
theorem Gq38_n1_ok : CSum Tryz.prog 49 (.loop Lq38_n1) Gq38_n1 := GNq38_n1_ok
noncomputable def Lq38_n0 : Code := codeAt [1,0,0] bq38
noncomputable def annLq38_n0 : Ann := .none
theorem annLq38_n0_ok : AnnOk Tryz.prog 49 Lq38_n0 annLq38_n0 := (annOk_none _ _ _)
abbrev Iq38_n0 := (Int) × (List (Int × List UInt8))
abbrev Yq38_n0 := (Bool)
def Sq38_n0 : Iq38_n0 → St := fun (t0,t1) => { env := [(0,.int .i64 t0),(1,.ro (.st (.pair (.int .i64) .str)) t1)],stk := [[]],H := [],blk := 417792 }
def decPq38_n0 (s : St) : Option {x : Iq38_n0 // s = Sq38_n0 x} := match s with
  | { env := [(0,.int .i64 t0),(1,.ro (.st (.pair (.int .i64) .str)) t1)],stk := [[]],H := [],blk := 417792 } => some ⟨(t0,t1),rfl⟩
  | _ => none
def decq38_n0 (s : St) : Option Iq38_n0 := pk (decPq38_n0 s)
theorem decq38_n0_ok (s : St) (x : Iq38_n0) (h : decq38_n0 s = some x) : s = Sq38_n0 x := pk_ok (o := decPq38_n0 s) h
def outq38_n0 : Iq38_n0 → (Ex → St → Ans) → Yq38_n0 → Ans := fun (t0,t1) K => fun t16_y => K (Ex.norm) { env := [(0,.int .i64 t0),(1,.ro (.st (.pair (.int .i64) .str)) t1),(16,.bool t16_y)],stk := [[]],H := [],blk := 417792 }
def nodeq38_n0 {β : Type} : Iq38_n0 → (Yq38_n0 → Option β) → Option β := fun (t0,t1) exit => (bif decide (t0 < (0 : Int)) then (exit (true)) else (exit (decide (t0 ≥ (281474976710656 : Int)))))
def nodeDq38_n0 (i : Iq38_n0) : Option Yq38_n0 := nodeq38_n0 i some
theorem nodeq38_n0_nat (i : Iq38_n0) (k : Yq38_n0 → Ans) : nodeq38_n0 i k = bindO (nodeDq38_n0 i) k := by
  obtain ⟨t0,t1⟩ := i
  simp only [nodeDq38_n0,nodeq38_n0,bindO_cond,bindO_assoc,bindO_none,bindO_pure,bindO_elim,bindO_unP,bindO_empty]
theorem nodeq38_n0_ok (i : Iq38_n0) (K : Ex → St → Ans) : codeI Tryz.tab envq38 noHint (codeD Tryz.tab envq38 noHint 0 64) 70 49 annLq38_n0 Lq38_n0 (weakP 0 (exk [0,1,16] [4,5] []) K) (Sq38_n0 i) = nodeq38_n0 i (outq38_n0 i K) := by kernel_rfl
theorem GNq38_n0_ok : CSum Tryz.prog 49 Lq38_n0 (sumN decq38_n0 nodeDq38_n0 outq38_n0) := csum_node mixed tabOk envq38Ok 0 (exk [0,1,16] [4,5] []) annLq38_n0_ok decq38_n0_ok nodeq38_n0_ok nodeq38_n0_nat
noncomputable def Gq38_n0 : (Ex → St → Ans) → St → Ans := (sumN decq38_n0 nodeDq38_n0 outq38_n0)
theorem Gq38_n0_ok : CSum Tryz.prog 49 Lq38_n0 Gq38_n0 := GNq38_n0_ok
noncomputable def annq38 : Ann := (.seq .none (.seq (.seq (.cut 0 [0,1] Gq38_n0) .none) (.seq .none (.seq .none (.seq .none (.seq (.seq .none (.block (.cut 0 [7,8,27,28,29] Gq38_n1))) .none))))))
theorem annq38_ok : AnnOk Tryz.prog 49 bq38 annq38 := ⟨(annOk_none _ _ _),⟨⟨Gq38_n0_ok,(annOk_none _ _ _)⟩,⟨(annOk_none _ _ _),⟨(annOk_none _ _ _),⟨(annOk_none _ _ _),⟨⟨(annOk_none _ _ _),Gq38_n1_ok⟩,(annOk_none _ _ _)⟩⟩⟩⟩⟩⟩
abbrev Aq38 := (Int) × (List (Int × List UInt8))
abbrev Yq38 := (List UInt8) × (Int)
def fnq38 {β : Type} : Aq38 → (Yq38 → Option β) → Option β := fun (a0,a1) exit => (bindO (nodeDq38_n0 (a0,a1)) fun t16 => (bif t16 then (exit ([],(3 : Int))) else (bindO (fnDq35 (a1)) fun r => (bif r != (0 : Int) then (exit ([],r)) else (bindO (fnDq16 ([(82 : UInt8)],a0,(6 : Int))) fun r_2 => (bindO (fnDq16 (r_2,(↑(List.length a1) : Int),(1 : Int))) fun r_3 => (bindO (loopD (stepDq38_n1 (a1,(↑(List.length a1) : Int))) FUEL (r_3,(0 : Int),[])) (unP fun t7 o1 => (bindO (fnDBuilder_String (o1)) (unP fun r_4 o0 => (bindO (fnDq40 (t7,r_4)) fun r_5 => (bif Nat.ble (List.length t7 + List.length r_5) (9223372036854775807 : Nat) then (bindO (fnDq70 (t7 ++ r_5)) fun r_6 => (bindO (fnDBuilder_StringAgain (o0)) (unP fun r_7 o0_2 => (bif Nat.ble (List.length r_6 + List.length r_7) (9223372036854775807 : Nat) then (exit (r_6 ++ r_7,(0 : Int))) else none)))) else none))))))))))))
def fnDq38 (a : Aq38) : Option Yq38 := fnq38 a some
theorem fnq38_nat (a : Aq38) (k : Yq38 → Ans) : fnq38 a k = bindO (fnDq38 a) k := by
  obtain ⟨a0,a1⟩ := a
  simp only [fnDq38,fnq38,bindO_cond,bindO_assoc,bindO_none,bindO_pure,bindO_elim,bindO_unP,bindO_empty]
def argsq38 : Aq38 → List AV := fun (a0,a1) => [.int .i64 a0,.ro (.st (.pair (.int .i64) .str)) a1]
def decPAq38 (l : List AV) : Option {a : Aq38 // l = argsq38 a} := match l with
  | [.int .i64 a0,.ro (.st (.pair (.int .i64) .str)) a1] => some ⟨(a0,a1),rfl⟩
  | _ => none
def decAq38 (l : List AV) : Option Aq38 := pk (decPAq38 l)
theorem decAq38_ok (l : List AV) (a : Aq38) (h : decAq38 l = some a) : l = argsq38 a := pk_ok (o := decPAq38 l) h
def rendq38 : Aq38 → Yq38 → AV := fun (a0,a1) => unP fun r_0_y r_1_y => .tup [.str r_0_y,.int .i64 r_1_y]
theorem rendq38_ok : ∀ (a : Aq38) (y : Yq38),(rendq38 a y).closed1 = true := by
  rintro ⟨a0,a1⟩ y <;> first | rfl | exact Empty.elim y
theorem fnq38_ok (a : Aq38) : fnE Tryz.tab envq38 noHint 0 70 102 Tryz.f102.ntmps Tryz.f102.results.toList annq38 bq38 (argsq38 a) [] (fun v _ => some (v,[])) = fnq38 a (fun y => some (rendq38 a y,[])) := by kernel_rfl
def vFq38 (a : Aq38) (K : AV → Ans) : Ans := bindO (fnDq38 a) fun y => K (rendq38 a y)
def Fq38 : List AV → (AV → Ans) → Ans := fun l K => bindO (decAq38 l) fun a => vFq38 a K
theorem Fq38_ok : PureOk Tryz.prog 102 Fq38 := pure_mkD (hint := noHint) (d := 0) (n := 70) mixed tabOk envq38Ok Tryz.func102 (bodySome (by kernel_rfl)) (by decide +kernel) annq38_ok decAq38_ok fnq38_ok fnq38_nat rendq38_ok
--@ logrec_Get
noncomputable def envq37 : Env := [(129,.func Fq15),(130,.func Fq17),(131,.func Fq18),(165,.pure Fq40),(102,.pure Fq38)]
theorem envq37Ok : EnvOk Tryz.prog envq37 := EnvOk.cons Fq15_ok (EnvOk.cons Fq17_ok (EnvOk.cons Fq18_ok (EnvOk.cons Fq40_ok (EnvOk.cons Fq38_ok (EnvOk.nil)))))
noncomputable def bq37 : Code := Tryz.f261.body.getD .skip
noncomputable def Lq37_n4 : Code := codeAt [1,1,1,1,1,1,1,1,1,1,1,0,1,0] bq37
noncomputable def annLq37_n4 : Ann := .none
theorem annLq37_n4_ok : AnnOk Tryz.prog 106 Lq37_n4 annLq37_n4 := (annOk_none _ _ _)
abbrev Iq37_n4 := (List UInt8) × (Int) × (List UInt8) × (Int) × (List (Int × List UInt8))
abbrev Yq37_n4 := (Bool)
def Sq37_n4 : Iq37_n4 → St := fun (t0,t8,t14,t15,o0) => { env := [(0,.str t0),(8,.int .i64 t8),(10,.own 0),(14,.str t14),(15,.int .i64 t15)],stk := [[]],H := [.arr (.st (.pair (.int .i64) .str)) o0],blk := 1069058 }
def decPq37_n4 (s : St) : Option {x : Iq37_n4 // s = Sq37_n4 x} := match s with
  | { env := [(0,.str t0),(8,.int .i64 t8),(10,.own 0),(14,.str t14),(15,.int .i64 t15)],stk := [[]],H := [.arr (.st (.pair (.int .i64) .str)) o0],blk := 1069058 } => some ⟨(t0,t8,t14,t15,o0),rfl⟩
  | _ => none
def decq37_n4 (s : St) : Option Iq37_n4 := pk (decPq37_n4 s)
theorem decq37_n4_ok (s : St) (x : Iq37_n4) (h : decq37_n4 s = some x) : s = Sq37_n4 x := pk_ok (o := decPq37_n4 s) h
def outq37_n4 : Iq37_n4 → (Ex → St → Ans) → Yq37_n4 → Ans := fun (t0,t8,t14,t15,o0) K => fun t103_y => K (Ex.norm) { env := [(8,.int .i64 t8),(10,.own 0),(103,.bool t103_y)],stk := [[]],H := [.arr (.st (.pair (.int .i64) .str)) o0],blk := 1069058 }
def nodeq37_n4 {β : Type} : Iq37_n4 → (Yq37_n4 → Option β) → Option β := fun (t0,t8,t14,t15,o0) exit => (bif t15 != (0 : Int) then (exit (true)) else (exit (!t14 == t0)))
def nodeDq37_n4 (i : Iq37_n4) : Option Yq37_n4 := nodeq37_n4 i some
theorem nodeq37_n4_nat (i : Iq37_n4) (k : Yq37_n4 → Ans) : nodeq37_n4 i k = bindO (nodeDq37_n4 i) k := by
  obtain ⟨t0,t8,t14,t15,o0⟩ := i
  simp only [nodeDq37_n4,nodeq37_n4,bindO_cond,bindO_assoc,bindO_none,bindO_pure,bindO_elim,bindO_unP,bindO_empty]
theorem nodeq37_n4_ok (i : Iq37_n4) (K : Ex → St → Ans) : codeI Tryz.tab envq37 noHint (codeD Tryz.tab envq37 noHint 0 64) 70 106 annLq37_n4 Lq37_n4 (weakP 0 (exk [8,10,103] [2,3,4] []) K) (Sq37_n4 i) = nodeq37_n4 i (outq37_n4 i K) := by kernel_rfl
theorem GNq37_n4_ok : CSum Tryz.prog 106 Lq37_n4 (sumN decq37_n4 nodeDq37_n4 outq37_n4) := csum_node mixed tabOk envq37Ok 0 (exk [8,10,103] [2,3,4] []) annLq37_n4_ok decq37_n4_ok nodeq37_n4_ok nodeq37_n4_nat
noncomputable def Gq37_n4 : (Ex → St → Ans) → St → Ans := (sumN decq37_n4 nodeDq37_n4 outq37_n4)
theorem Gq37_n4_ok : CSum Tryz.prog 106 Lq37_n4 Gq37_n4 := GNq37_n4_ok
noncomputable def Lq37_n3 : Code := codeAt [1,1,1,1,1,1,1,1,1,1,0,1,0,0] bq37
noncomputable def annLq37_n3 : Ann := .at 0 [0,8,10,11,77,78] (.loop .none)
theorem annLq37_n3_ok : AnnOk Tryz.prog 106 (.loop Lq37_n3) annLq37_n3 := annOk_at (annOk_none _ _ _)
abbrev Iq37_n3 := (List UInt8) × (Int) × (List UInt8) × (Int)
abbrev Yq37_n3 := (List (Int × List UInt8))
abbrev Vq37_n3 := (Int) × (List (Int × List UInt8))
def Sq37_n3 : Iq37_n3 → Vq37_n3 → St := fun (t0,t8,t11,t77) (t78,o0) => { env := [(0,.str t0),(8,.int .i64 t8),(10,.own 0),(11,.str t11),(77,.int .i64 t77),(78,.int .i64 t78)],stk := [[]],H := [.arr (.st (.pair (.int .i64) .str)) o0],blk := 1069058 }
def decPq37_n3 (s : St) : Option {x : Iq37_n3 × Vq37_n3 // s = Sq37_n3 x.1 x.2} := match s with
  | { env := [(0,.str t0),(8,.int .i64 t8),(10,.own 0),(11,.str t11),(77,.int .i64 t77),(78,.int .i64 t78)],stk := [[]],H := [.arr (.st (.pair (.int .i64) .str)) o0],blk := 1069058 } => some ⟨((t0,t8,t11,t77),(t78,o0)),rfl⟩
  | _ => none
def decq37_n3 (s : St) : Option (Iq37_n3 × Vq37_n3) := pk (decPq37_n3 s)
theorem decq37_n3_ok (s : St) (x : Iq37_n3 × Vq37_n3) (h : decq37_n3 s = some x) : s = Sq37_n3 x.1 x.2 := pk_ok (o := decPq37_n3 s) h
def outq37_n3 : Iq37_n3 → (Ex → St → Ans) → Yq37_n3 → Ans := fun (t0,t8,t11,t77) K => fun o0_y => K (Ex.exit 2) { env := [(0,.str t0),(8,.int .i64 t8),(10,.own 0)],stk := [[]],H := [.arr (.st (.pair (.int .i64) .str)) o0_y],blk := 1069058 }
def stepq37_n3 {β : Type} : Iq37_n3 → Vq37_n3 → (Vq37_n3 → Option β) → (Yq37_n3 → Option β) → Option β := fun (t0,t8,t11,t77) (t78,o0) next exit => (bif decide (t78 < t77) then (bif inR (IntKind.wrap .i64 (t78 * (64 : Int))) (List.length t11 + (1 : Nat)) then (bif inR (64 : Int) (List.length (List.drop (Int.toNat (IntKind.wrap .i64 (t78 * (64 : Int)))) t11) + (1 : Nat)) then (bif inR t78 (List.length o0) then (bindO (o0[Int.toNat t78]?) fun x => (next (IntKind.wrap .i64 (t78 + (1 : Int)),List.set o0 (Int.toNat t78) (x.fst,List.take (64 : Nat) (List.drop (Int.toNat (IntKind.wrap .i64 (t78 * (64 : Int)))) t11))))) else none) else none) else none) else (exit (o0)))
def stepDq37_n3 (i : Iq37_n3) (v : Vq37_n3) : Option (Vq37_n3 ⊕ Yq37_n3) := stepq37_n3 i v (fun v => some (.inl v)) (fun y => some (.inr y))
theorem stepq37_n3_nat (i : Iq37_n3) (v : Vq37_n3) (next : Vq37_n3 → Ans) (exit : Yq37_n3 → Ans) : stepq37_n3 i v next exit = bindO (stepDq37_n3 i v) (Sum.elim next exit) := by
  obtain ⟨t0,t8,t11,t77⟩ := i
  obtain ⟨t78,o0⟩ := v
  simp only [stepDq37_n3,stepq37_n3,bindO_cond,bindO_assoc,bindO_none,bindO_pure,bindO_elim,bindO_unP,bindO_empty,Sum.elim_inl,Sum.elim_inr]
theorem stepq37_n3_ok (n : Nat) (i : Iq37_n3) (v : Vq37_n3) (K : Ex → St → Ans) : codeI Tryz.tab envq37 noHint (codeD Tryz.tab envq37 noHint 0 64) (n+1) 106 annLq37_n3 (.loop Lq37_n3) (weakP 0 (exk [0,8,10] [2,3,4] [(2,[0,8,10])]) K) (Sq37_n3 i v) = stepq37_n3 i v (fun v' => codeI Tryz.tab envq37 noHint (codeD Tryz.tab envq37 noHint 0 64) n 106 annLq37_n3 (.loop Lq37_n3) (weakP 0 (exk [0,8,10] [2,3,4] [(2,[0,8,10])]) K) (Sq37_n3 i v')) (fun y => outq37_n3 i K y) := by kernel_rfl
theorem GNq37_n3_ok : CSum Tryz.prog 106 (.loop Lq37_n3) (sumL decq37_n3 stepDq37_n3 outq37_n3) := csum_loop mixed tabOk envq37Ok 0 (exk [0,8,10] [2,3,4] [(2,[0,8,10])]) annLq37_n3_ok decq37_n3_ok stepq37_n3_ok stepq37_n3_nat
noncomputable def Gq37_n3 : (Ex → St → Ans) → St → Ans := (sumL decq37_n3 stepDq37_n3 outq37_n3)
theorem Gq37_n3_ok : CSum Tryz.prog 106 (.loop Lq37_n3) Gq37_n3 := GNq37_n3_ok
noncomputable def Lq37_n2 : Code := codeAt [1,1,1,1,1,1,1,0,1,0,0] bq37
noncomputable def annLq37_n2 : Ann := .at 0 [0,5,6,8,10,51,52] (.loop .none)
theorem annLq37_n2_ok : AnnOk Tryz.prog 106 (.loop Lq37_n2) annLq37_n2 := annOk_at (annOk_none _ _ _)
abbrev Iq37_n2 := (List UInt8) × (Int) × (Int) × (Int)
abbrev Yq37_n2 := (List UInt8) × (Int) × (List (Int × List UInt8))
abbrev Vq37_n2 := (Int) × (List UInt8) × (Int) × (List (Int × List UInt8))
def Sq37_n2 : Iq37_n2 → Vq37_n2 → St := fun (t0,t5,t8,t51) (t52,o0_0,o0_1,o1) => { env := [(0,.str t0),(5,.int .i64 t5),(6,.ptr 0 0),(8,.int .i64 t8),(10,.own 1),(51,.int .i64 t51),(52,.int .i64 t52)],stk := [[]],H := [.cells [.str o0_0,.int .i64 o0_1],.arr (.st (.pair (.int .i64) .str)) o1],blk := 1069056 }
def decPq37_n2 (s : St) : Option {x : Iq37_n2 × Vq37_n2 // s = Sq37_n2 x.1 x.2} := match s with
  | { env := [(0,.str t0),(5,.int .i64 t5),(6,.ptr 0 0),(8,.int .i64 t8),(10,.own 1),(51,.int .i64 t51),(52,.int .i64 t52)],stk := [[]],H := [.cells [.str o0_0,.int .i64 o0_1],.arr (.st (.pair (.int .i64) .str)) o1],blk := 1069056 } => some ⟨((t0,t5,t8,t51),(t52,o0_0,o0_1,o1)),rfl⟩
  | _ => none
def decq37_n2 (s : St) : Option (Iq37_n2 × Vq37_n2) := pk (decPq37_n2 s)
theorem decq37_n2_ok (s : St) (x : Iq37_n2 × Vq37_n2) (h : decq37_n2 s = some x) : s = Sq37_n2 x.1 x.2 := pk_ok (o := decPq37_n2 s) h
def outq37_n2 : Iq37_n2 → (Ex → St → Ans) → Yq37_n2 → Ans := fun (t0,t5,t8,t51) K => unP fun o0_0_y => unP fun o0_1_y o1_y => K (Ex.exit 0) { env := [(0,.str t0),(5,.int .i64 t5),(6,.ptr 0 0),(8,.int .i64 t8),(10,.own 1)],stk := [[]],H := [.cells [.str o0_0_y,.int .i64 o0_1_y],.arr (.st (.pair (.int .i64) .str)) o1_y],blk := 1069056 }
def stepq37_n2 {β : Type} : Iq37_n2 → Vq37_n2 → (Vq37_n2 → Option β) → (Yq37_n2 → Option β) → Option β := fun (t0,t5,t8,t51) (t52,o0_0,o0_1,o1) next exit => (bif decide (t52 < t51) then (bindO (fnDq18 ((2 : Int),o0_0,o0_1)) (unP fun r => unP fun o0_0_2 o0_1_2 => (bif Nat.ble ((List.length o1 + List.length [(r,nilL UInt8)]) * (24 : Nat)) (140737488355328 : Nat) then (next (IntKind.wrap .i64 (t52 + (1 : Int)),o0_0_2,o0_1_2,o1 ++ [(r,[])])) else none))) else (exit (o0_0,o0_1,o1)))
def stepDq37_n2 (i : Iq37_n2) (v : Vq37_n2) : Option (Vq37_n2 ⊕ Yq37_n2) := stepq37_n2 i v (fun v => some (.inl v)) (fun y => some (.inr y))
theorem stepq37_n2_nat (i : Iq37_n2) (v : Vq37_n2) (next : Vq37_n2 → Ans) (exit : Yq37_n2 → Ans) : stepq37_n2 i v next exit = bindO (stepDq37_n2 i v) (Sum.elim next exit) := by
  obtain ⟨t0,t5,t8,t51⟩ := i
  obtain ⟨t52,o0_0,o0_1,o1⟩ := v
  simp only [stepDq37_n2,stepq37_n2,bindO_cond,bindO_assoc,bindO_none,bindO_pure,bindO_elim,bindO_unP,bindO_empty,Sum.elim_inl,Sum.elim_inr]
theorem stepq37_n2_ok (n : Nat) (i : Iq37_n2) (v : Vq37_n2) (K : Ex → St → Ans) : codeI Tryz.tab envq37 noHint (codeD Tryz.tab envq37 noHint 0 64) (n+1) 106 annLq37_n2 (.loop Lq37_n2) (weakP 0 (exk [0,5,6,8,10] [2,3,4] [(0,[0,5,6,8,10])]) K) (Sq37_n2 i v) = stepq37_n2 i v (fun v' => codeI Tryz.tab envq37 noHint (codeD Tryz.tab envq37 noHint 0 64) n 106 annLq37_n2 (.loop Lq37_n2) (weakP 0 (exk [0,5,6,8,10] [2,3,4] [(0,[0,5,6,8,10])]) K) (Sq37_n2 i v')) (fun y => outq37_n2 i K y) := by kernel_rfl
theorem GNq37_n2_ok : CSum Tryz.prog 106 (.loop Lq37_n2) (sumL decq37_n2 stepDq37_n2 outq37_n2) := csum_loop mixed tabOk envq37Ok 0 (exk [0,5,6,8,10] [2,3,4] [(0,[0,5,6,8,10])]) annLq37_n2_ok decq37_n2_ok stepq37_n2_ok stepq37_n2_nat
noncomputable def Gq37_n2 : (Ex → St → Ans) → St → Ans := (sumL decq37_n2 stepDq37_n2 outq37_n2)
theorem Gq37_n2_ok : CSum Tryz.prog 106 (.loop Lq37_n2) Gq37_n2 := GNq37_n2_ok
noncomputable def Lq37_n1 : Code := codeAt [1,1,1,1,1,0,0] bq37
noncomputable def annLq37_n1 : Ann := .none
theorem annLq37_n1_ok : AnnOk Tryz.prog 106 Lq37_n1 annLq37_n1 := (annOk_none _ _ _)
abbrev Iq37_n1 := (List UInt8) × (Int) × (List UInt8) × (Int) × (Int) × (List UInt8) × (Int)
abbrev Yq37_n1 := (Bool)
def Sq37_n1 : Iq37_n1 → St := fun (t0,t5,t7,t8,t9,o0_0,o0_1) => { env := [(0,.str t0),(5,.int .i64 t5),(6,.ptr 0 0),(7,.str t7),(8,.int .i64 t8),(9,.int .i64 t9)],stk := [[]],H := [.cells [.str o0_0,.int .i64 o0_1]],blk := 1069056 }
def decPq37_n1 (s : St) : Option {x : Iq37_n1 // s = Sq37_n1 x} := match s with
  | { env := [(0,.str t0),(5,.int .i64 t5),(6,.ptr 0 0),(7,.str t7),(8,.int .i64 t8),(9,.int .i64 t9)],stk := [[]],H := [.cells [.str o0_0,.int .i64 o0_1]],blk := 1069056 } => some ⟨(t0,t5,t7,t8,t9,o0_0,o0_1),rfl⟩
  | _ => none
def decq37_n1 (s : St) : Option Iq37_n1 := pk (decPq37_n1 s)
theorem decq37_n1_ok (s : St) (x : Iq37_n1) (h : decq37_n1 s = some x) : s = Sq37_n1 x := pk_ok (o := decPq37_n1 s) h
def outq37_n1 : Iq37_n1 → (Ex → St → Ans) → Yq37_n1 → Ans := fun (t0,t5,t7,t8,t9,o0_0,o0_1) K => fun t50_y => K (Ex.norm) { env := [(0,.str t0),(5,.int .i64 t5),(6,.ptr 0 0),(8,.int .i64 t8),(50,.bool t50_y)],stk := [[]],H := [.cells [.str o0_0,.int .i64 o0_1]],blk := 1069056 }
def nodeq37_n1 {β : Type} : Iq37_n1 → (Yq37_n1 → Option β) → Option β := fun (t0,t5,t7,t8,t9,o0_0,o0_1) exit => (bif !t7 == [(82 : UInt8)] then (exit (true)) else (bif t9 != t5 then (exit (true)) else (bif decide (t5 < (1 : Int)) then (exit (true)) else (exit (decide (t5 > (16 : Int)))))))
def nodeDq37_n1 (i : Iq37_n1) : Option Yq37_n1 := nodeq37_n1 i some
theorem nodeq37_n1_nat (i : Iq37_n1) (k : Yq37_n1 → Ans) : nodeq37_n1 i k = bindO (nodeDq37_n1 i) k := by
  obtain ⟨t0,t5,t7,t8,t9,o0_0,o0_1⟩ := i
  simp only [nodeDq37_n1,nodeq37_n1,bindO_cond,bindO_assoc,bindO_none,bindO_pure,bindO_elim,bindO_unP,bindO_empty]
theorem nodeq37_n1_ok (i : Iq37_n1) (K : Ex → St → Ans) : codeI Tryz.tab envq37 noHint (codeD Tryz.tab envq37 noHint 0 64) 70 106 annLq37_n1 Lq37_n1 (weakP 0 (exk [0,5,6,8,50] [2,3,4] []) K) (Sq37_n1 i) = nodeq37_n1 i (outq37_n1 i K) := by kernel_rfl
theorem GNq37_n1_ok : CSum Tryz.prog 106 Lq37_n1 (sumN decq37_n1 nodeDq37_n1 outq37_n1) := csum_node mixed tabOk envq37Ok 0 (exk [0,5,6,8,50] [2,3,4] []) annLq37_n1_ok decq37_n1_ok nodeq37_n1_ok nodeq37_n1_nat
noncomputable def Gq37_n1 : (Ex → St → Ans) → St → Ans := (sumN decq37_n1 nodeDq37_n1 outq37_n1)
theorem Gq37_n1_ok : CSum Tryz.prog 106 Lq37_n1 Gq37_n1 := GNq37_n1_ok
noncomputable def Lq37_n0 : Code := codeAt [1,1,0,0] bq37
noncomputable def annLq37_n0 : Ann := .none
theorem annLq37_n0_ok : AnnOk Tryz.prog 106 Lq37_n0 annLq37_n0 := (annOk_none _ _ _)
abbrev Iq37_n0 := (List UInt8) × (Int)
abbrev Yq37_n0 := (Bool)
def Sq37_n0 : Iq37_n0 → St := fun (t0,t5) => { env := [(0,.str t0),(5,.int .i64 t5)],stk := [[]],H := [],blk := 1069056 }
def decPq37_n0 (s : St) : Option {x : Iq37_n0 // s = Sq37_n0 x} := match s with
  | { env := [(0,.str t0),(5,.int .i64 t5)],stk := [[]],H := [],blk := 1069056 } => some ⟨(t0,t5),rfl⟩
  | _ => none
def decq37_n0 (s : St) : Option Iq37_n0 := pk (decPq37_n0 s)
theorem decq37_n0_ok (s : St) (x : Iq37_n0) (h : decq37_n0 s = some x) : s = Sq37_n0 x := pk_ok (o := decPq37_n0 s) h
def outq37_n0 : Iq37_n0 → (Ex → St → Ans) → Yq37_n0 → Ans := fun (t0,t5) K => fun t27_y => K (Ex.norm) { env := [(0,.str t0),(5,.int .i64 t5),(27,.bool t27_y)],stk := [[]],H := [],blk := 1069056 }
def nodeq37_n0 {β : Type} : Iq37_n0 → (Yq37_n0 → Option β) → Option β := fun (t0,t5) exit => (bif decide (t5 < (0 : Int)) then (exit (true)) else (exit (Int.tmod (↑(List.length t0) : Int) (64 : Int) != (0 : Int))))
def nodeDq37_n0 (i : Iq37_n0) : Option Yq37_n0 := nodeq37_n0 i some
theorem nodeq37_n0_nat (i : Iq37_n0) (k : Yq37_n0 → Ans) : nodeq37_n0 i k = bindO (nodeDq37_n0 i) k := by
  obtain ⟨t0,t5⟩ := i
  simp only [nodeDq37_n0,nodeq37_n0,bindO_cond,bindO_assoc,bindO_none,bindO_pure,bindO_elim,bindO_unP,bindO_empty]
theorem nodeq37_n0_ok (i : Iq37_n0) (K : Ex → St → Ans) : codeI Tryz.tab envq37 noHint (codeD Tryz.tab envq37 noHint 0 64) 70 106 annLq37_n0 Lq37_n0 (weakP 0 (exk [0,5,27] [2,3,4] []) K) (Sq37_n0 i) = nodeq37_n0 i (outq37_n0 i K) := by kernel_rfl
theorem GNq37_n0_ok : CSum Tryz.prog 106 Lq37_n0 (sumN decq37_n0 nodeDq37_n0 outq37_n0) := csum_node mixed tabOk envq37Ok 0 (exk [0,5,27] [2,3,4] []) annLq37_n0_ok decq37_n0_ok nodeq37_n0_ok nodeq37_n0_nat
noncomputable def Gq37_n0 : (Ex → St → Ans) → St → Ans := (sumN decq37_n0 nodeDq37_n0 outq37_n0)
theorem Gq37_n0_ok : CSum Tryz.prog 106 Lq37_n0 Gq37_n0 := GNq37_n0_ok
noncomputable def annq37 : Ann := (.seq .none (.seq .none (.seq (.seq (.cut 0 [0,5] Gq37_n0) .none) (.seq .none (.seq .none (.seq (.seq (.cut 0 [0,5,6,7,8,9] Gq37_n1) .none) (.seq .none (.seq (.seq .none (.block (.cut 0 [0,5,6,8,10,51,52] Gq37_n2))) (.seq .none (.seq .none (.seq (.seq .none (.block (.cut 0 [0,8,10,11,77,78] Gq37_n3))) (.seq (.seq .none (.seq (.cut 0 [0,8,10,14,15] Gq37_n4) .none)) .none))))))))))))
theorem annq37_ok : AnnOk Tryz.prog 106 bq37 annq37 := ⟨(annOk_none _ _ _),⟨(annOk_none _ _ _),⟨⟨Gq37_n0_ok,(annOk_none _ _ _)⟩,⟨(annOk_none _ _ _),⟨(annOk_none _ _ _),⟨⟨Gq37_n1_ok,(annOk_none _ _ _)⟩,⟨(annOk_none _ _ _),⟨⟨(annOk_none _ _ _),Gq37_n2_ok⟩,⟨(annOk_none _ _ _),⟨(annOk_none _ _ _),⟨⟨(annOk_none _ _ _),Gq37_n3_ok⟩,⟨⟨(annOk_none _ _ _),⟨Gq37_n4_ok,(annOk_none _ _ _)⟩⟩,(annOk_none _ _ _)⟩⟩⟩⟩⟩⟩⟩⟩⟩⟩⟩⟩
abbrev Aq37 := (List UInt8)
abbrev Yq37 := (Int) × (Int) × (List (Int × List UInt8))
def fnq37 {β : Type} : Aq37 → (Yq37 → Option β) → Option β := fun a0 exit => (bindO (nodeDq37_n0 (a0,IntKind.wrap .i64 (IntKind.wrap .i64 (Int.tdiv (↑(List.length a0) : Int) (64 : Int)) - (1 : Int)))) fun t27 => (bif t27 then (exit ((0 : Int),(12 : Int),[])) else (bindO (fnDq15 (a0)) fun _ => (bindO (fnDq17 ((1 : Int),a0,(0 : Int))) (unP fun r => unP fun o0_0 o0_1 => (bindO (fnDq18 ((6 : Int),o0_0,o0_1)) (unP fun r_2 => unP fun o0_0_2 o0_1_2 => (bindO (fnDq18 ((1 : Int),o0_0_2,o0_1_2)) (unP fun r_3 => unP fun o0_0_3 o0_1_3 => (bindO (nodeDq37_n1 (a0,IntKind.wrap .i64 (IntKind.wrap .i64 (Int.tdiv (↑(List.length a0) : Int) (64 : Int)) - (1 : Int)),r,r_2,r_3,o0_0_3,o0_1_3)) fun t50 => (bif t50 then (exit ((0 : Int),(4 : Int),[])) else (bindO (loopD (stepDq37_n2 (a0,IntKind.wrap .i64 (IntKind.wrap .i64 (Int.tdiv (↑(List.length a0) : Int) (64 : Int)) - (1 : Int)),r_2,IntKind.wrap .i64 (IntKind.wrap .i64 (Int.tdiv (↑(List.length a0) : Int) (64 : Int)) - (1 : Int)))) FUEL ((0 : Int),o0_0_3,o0_1_3,[])) (unP fun o0_0_4 => unP fun o0_1_4 o1 => (bif inR (64 : Int) (List.length a0 + (1 : Nat)) then (bif inR (IntKind.wrap .i64 ((8 : Int) + IntKind.wrap .i64 ((2 : Int) * IntKind.wrap .i64 (IntKind.wrap .i64 (Int.tdiv (↑(List.length a0) : Int) (64 : Int)) - (1 : Int))))) (List.length a0 + (1 : Nat)) then (bindO (fnDq40 (List.take (Int.toNat (IntKind.wrap .i64 ((8 : Int) + IntKind.wrap .i64 ((2 : Int) * IntKind.wrap .i64 (IntKind.wrap .i64 (Int.tdiv (↑(List.length a0) : Int) (64 : Int)) - (1 : Int)))))) a0,List.drop (64 : Nat) a0)) fun r_4 => (bindO (fnDq17 ((↑(List.length r_4) : Int),o0_0_4,o0_1_4)) (unP fun r_5 => unP fun o0_0_5 o0_1_5 => (bif !r_5 == r_4 then (exit ((0 : Int),(5 : Int),[])) else (bindO (loopD (stepDq37_n3 (a0,r_2,List.drop (64 : Nat) a0,(↑(List.length o1) : Int))) FUEL ((0 : Int),o1)) fun o0 => (bindO (fnDq38 (r_2,o0)) (unP fun r_0 r_1 => (bindO (nodeDq37_n4 (a0,r_2,r_0,r_1,o0)) fun t103 => (bif t103 then (exit ((0 : Int),(4 : Int),[])) else (exit (r_2,(0 : Int),o0))))))))))) else none) else none))))))))))))))
def fnDq37 (a : Aq37) : Option Yq37 := fnq37 a some
theorem fnq37_nat (a : Aq37) (k : Yq37 → Ans) : fnq37 a k = bindO (fnDq37 a) k := by
  obtain z := a
  simp only [fnDq37,fnq37,bindO_cond,bindO_assoc,bindO_none,bindO_pure,bindO_elim,bindO_unP,bindO_empty]
def argsq37 : Aq37 → List AV × List AE.Obj := fun a0 => ([.str a0],[])
def decPAq37 (l : List AV) (H : List AE.Obj) : Option {a : Aq37 // (l,H) = argsq37 a} := match l,H with
  | [.str a0],[] => some ⟨(a0),rfl⟩
  | _,_ => none
def decAq37 (l : List AV) (H : List AE.Obj) : Option Aq37 := pk (decPAq37 l H)
theorem decAq37_ok (l : List AV) (H : List AE.Obj) (a : Aq37) (h : decAq37 l H = some a) : (l,H) = argsq37 a := pk_ok (o := decPAq37 l H) h
def outq37 : Aq37 → (AV → List AE.Obj → Ans) → Yq37 → Ans := fun a0 K => unP fun r_0_y => unP fun r_2_y o0_y => K (.tup [.int .i64 r_0_y,.own 0,.int .i64 r_2_y]) [.arr (.st (.pair (.int .i64) .str)) o0_y]
theorem fnq37_ok (a : Aq37) (K : AV → List AE.Obj → Ans) : fnE Tryz.tab envq37 noHint 0 70 261 Tryz.f261.ntmps Tryz.f261.results.toList annq37 bq37 (argsq37 a).1 (argsq37 a).2 K = fnq37 a (outq37 a K) := by kernel_rfl
def vFq37 (a : Aq37) (K : AV → List AE.Obj → Ans) : Ans := bindO (fnDq37 a) fun y => outq37 a K y
def Fq37 : List AV → List AE.Obj → (AV → List AE.Obj → Ans) → Ans := fun l H K => bindO (decAq37 l H) fun a => vFq37 a K
theorem Fq37_ok : FuncOk Tryz.prog 261 Fq37 := func_mkD (hint := noHint) (d := 0) (n := 70) mixed tabOk envq37Ok Tryz.func261 (bodySome (by kernel_rfl)) (by decide +kernel) annq37_ok decAq37_ok fnq37_ok fnq37_nat
end Go.Proofs.R7
namespace Go.Proofs.R7
open Go Go.AE
set_option maxRecDepth 100000
--@ ref02_Fits
noncomputable def envq53 : Env := []
theorem envq53Ok : EnvOk Tryz.prog envq53 := EnvOk.nil
noncomputable def bq53 : Code := Tryz.f186.body.getD .skip
noncomputable def Lq53_n1 : Code := codeAt [1,1,0,1,0,0] bq53
noncomputable def annLq53_n1 : Ann := .at 0 [0,1,5] (.loop .none)
theorem annLq53_n1_ok : AnnOk Tryz.prog 25 (.loop Lq53_n1) annLq53_n1 := annOk_at (annOk_none _ _ _)
abbrev Iq53_n1 := (Int)
abbrev Yq53_n1 := (Int)
abbrev Vq53_n1 := (Int) × (Int)
def Sq53_n1 : Iq53_n1 → Vq53_n1 → St := fun t1 (t0,t5) => { env := [(0,.int .i64 t0),(1,.int .i64 t1),(5,.int .i64 t5)],stk := [[]],H := [],blk := 761856 }
def decPq53_n1 (s : St) : Option {x : Iq53_n1 × Vq53_n1 // s = Sq53_n1 x.1 x.2} := match s with
  | { env := [(0,.int .i64 t0),(1,.int .i64 t1),(5,.int .i64 t5)],stk := [[]],H := [],blk := 761856 } => some ⟨(t1,(t0,t5)),rfl⟩
  | _ => none
def decq53_n1 (s : St) : Option (Iq53_n1 × Vq53_n1) := pk (decPq53_n1 s)
theorem decq53_n1_ok (s : St) (x : Iq53_n1 × Vq53_n1) (h : decq53_n1 s = some x) : s = Sq53_n1 x.1 x.2 := pk_ok (o := decPq53_n1 s) h
def outq53_n1 : Iq53_n1 → (Ex → St → Ans) → Yq53_n1 → Ans := fun t1 K => fun t0_y => K (Ex.exit 0) { env := [(0,.int .i64 t0_y)],stk := [[]],H := [],blk := 761856 }
def stepq53_n1 {β : Type} : Iq53_n1 → Vq53_n1 → (Vq53_n1 → Option β) → (Yq53_n1 → Option β) → Option β := fun t1 (t0,t5) next exit => (bif decide (t5 < t1) then (next (IntKind.wrap .i64 (Int.tdiv t0 (256 : Int)),IntKind.wrap .i64 (t5 + (1 : Int)))) else (exit (t0)))
def stepDq53_n1 (i : Iq53_n1) (v : Vq53_n1) : Option (Vq53_n1 ⊕ Yq53_n1) := stepq53_n1 i v (fun v => some (.inl v)) (fun y => some (.inr y))
theorem stepq53_n1_nat (i : Iq53_n1) (v : Vq53_n1) (next : Vq53_n1 → Ans) (exit : Yq53_n1 → Ans) : stepq53_n1 i v next exit = bindO (stepDq53_n1 i v) (Sum.elim next exit) := by
  obtain z := i
  obtain ⟨t0,t5⟩ := v
  simp only [stepDq53_n1,stepq53_n1,bindO_cond,bindO_assoc,bindO_none,bindO_pure,bindO_elim,bindO_unP,bindO_empty,Sum.elim_inl,Sum.elim_inr]
theorem stepq53_n1_ok (n : Nat) (i : Iq53_n1) (v : Vq53_n1) (K : Ex → St → Ans) : codeI Tryz.tab envq53 noHint (codeD Tryz.tab envq53 noHint 0 64) (n+1) 25 annLq53_n1 (.loop Lq53_n1) (weakP 0 (exk [0] [4] [(0,[0])]) K) (Sq53_n1 i v) = stepq53_n1 i v (fun v' => codeI Tryz.tab envq53 noHint (codeD Tryz.tab envq53 noHint 0 64) n 25 annLq53_n1 (.loop Lq53_n1) (weakP 0 (exk [0] [4] [(0,[0])]) K) (Sq53_n1 i v')) (fun y => outq53_n1 i K y) := by kernel_rfl
theorem GNq53_n1_ok : CSum Tryz.prog 25 (.loop Lq53_n1) (sumL decq53_n1 stepDq53_n1 outq53_n1) := csum_loop mixed tabOk envq53Ok 0 (exk [0] [4] [(0,[0])]) annLq53_n1_ok decq53_n1_ok stepq53_n1_ok stepq53_n1_nat
noncomputable def Gq53_n1 : (Ex → St → Ans) → St → Ans := (sumL decq53_n1 stepDq53_n1 outq53_n1)
theorem Gq53_n1_ok : CSum Tryz.prog 25 (.loop Lq53_n1) Gq53_n1 := GNq53_n1_ok
noncomputable def Lq53_n0 : Code := codeAt [1,0,0] bq53
noncomputable def annLq53_n0 : Ann := .none
theorem annLq53_n0_ok : AnnOk Tryz.prog 25 Lq53_n0 annLq53_n0 := (annOk_none _ _ _)
abbrev Iq53_n0 := (Int) × (Int)
abbrev Yq53_n0 := (Bool)
def Sq53_n0 : Iq53_n0 → St := fun (t0,t1) => { env := [(0,.int .i64 t0),(1,.int .i64 t1)],stk := [[]],H := [],blk := 761856 }
def decPq53_n0 (s : St) : Option {x : Iq53_n0 // s = Sq53_n0 x} := match s with
  | { env := [(0,.int .i64 t0),(1,.int .i64 t1)],stk := [[]],H := [],blk := 761856 } => some ⟨(t0,t1),rfl⟩
  | _ => none
def decq53_n0 (s : St) : Option Iq53_n0 := pk (decPq53_n0 s)
theorem decq53_n0_ok (s : St) (x : Iq53_n0) (h : decq53_n0 s = some x) : s = Sq53_n0 x := pk_ok (o := decPq53_n0 s) h
def outq53_n0 : Iq53_n0 → (Ex → St → Ans) → Yq53_n0 → Ans := fun (t0,t1) K => fun t15_y => K (Ex.norm) { env := [(0,.int .i64 t0),(1,.int .i64 t1),(15,.bool t15_y)],stk := [[]],H := [],blk := 761856 }
def nodeq53_n0 {β : Type} : Iq53_n0 → (Yq53_n0 → Option β) → Option β := fun (t0,t1) exit => (bif decide (t1 < (1 : Int)) then (exit (true)) else (bif decide (t1 > (7 : Int)) then (exit (true)) else (exit (decide (t0 < (0 : Int))))))
def nodeDq53_n0 (i : Iq53_n0) : Option Yq53_n0 := nodeq53_n0 i some
theorem nodeq53_n0_nat (i : Iq53_n0) (k : Yq53_n0 → Ans) : nodeq53_n0 i k = bindO (nodeDq53_n0 i) k := by
  obtain ⟨t0,t1⟩ := i
  simp only [nodeDq53_n0,nodeq53_n0,bindO_cond,bindO_assoc,bindO_none,bindO_pure,bindO_elim,bindO_unP,bindO_empty]
theorem nodeq53_n0_ok (i : Iq53_n0) (K : Ex → St → Ans) : codeI Tryz.tab envq53 noHint (codeD Tryz.tab envq53 noHint 0 64) 70 25 annLq53_n0 Lq53_n0 (weakP 0 (exk [0,1,15] [4] []) K) (Sq53_n0 i) = nodeq53_n0 i (outq53_n0 i K) := by kernel_rfl
theorem GNq53_n0_ok : CSum Tryz.prog 25 Lq53_n0 (sumN decq53_n0 nodeDq53_n0 outq53_n0) := csum_node mixed tabOk envq53Ok 0 (exk [0,1,15] [4] []) annLq53_n0_ok decq53_n0_ok nodeq53_n0_ok nodeq53_n0_nat
noncomputable def Gq53_n0 : (Ex → St → Ans) → St → Ans := (sumN decq53_n0 nodeDq53_n0 outq53_n0)
theorem Gq53_n0_ok : CSum Tryz.prog 25 Lq53_n0 Gq53_n0 := GNq53_n0_ok
noncomputable def annq53 : Ann := (.seq .none (.seq (.seq (.cut 0 [0,1] Gq53_n0) .none) (.seq (.seq .none (.block (.cut 0 [0,1,5] Gq53_n1))) .none)))
theorem annq53_ok : AnnOk Tryz.prog 25 bq53 annq53 := ⟨(annOk_none _ _ _),⟨⟨Gq53_n0_ok,(annOk_none _ _ _)⟩,⟨⟨(annOk_none _ _ _),Gq53_n1_ok⟩,(annOk_none _ _ _)⟩⟩⟩
abbrev Aq53 := (Int) × (Int)
abbrev Yq53 := (Bool)
def fnq53 {β : Type} : Aq53 → (Yq53 → Option β) → Option β := fun (a0,a1) exit => (bindO (nodeDq53_n0 (a0,a1)) fun t15 => (bif t15 then (exit (false)) else (bindO (loopD (stepDq53_n1 (a1)) FUEL (a0,(0 : Int))) fun t0 => (exit (t0 == (0 : Int))))))
def fnDq53 (a : Aq53) : Option Yq53 := fnq53 a some
theorem fnq53_nat (a : Aq53) (k : Yq53 → Ans) : fnq53 a k = bindO (fnDq53 a) k := by
  obtain ⟨a0,a1⟩ := a
  simp only [fnDq53,fnq53,bindO_cond,bindO_assoc,bindO_none,bindO_pure,bindO_elim,bindO_unP,bindO_empty]
def argsq53 : Aq53 → List AV := fun (a0,a1) => [.int .i64 a0,.int .i64 a1]
def decPAq53 (l : List AV) : Option {a : Aq53 // l = argsq53 a} := match l with
  | [.int .i64 a0,.int .i64 a1] => some ⟨(a0,a1),rfl⟩
  | _ => none
def decAq53 (l : List AV) : Option Aq53 := pk (decPAq53 l)
theorem decAq53_ok (l : List AV) (a : Aq53) (h : decAq53 l = some a) : l = argsq53 a := pk_ok (o := decPAq53 l) h
def rendq53 : Aq53 → Yq53 → AV := fun (a0,a1) => fun r_y => .bool r_y
theorem rendq53_ok : ∀ (a : Aq53) (y : Yq53),(rendq53 a y).closed1 = true := by
  rintro ⟨a0,a1⟩ y <;> first | rfl | exact Empty.elim y
theorem fnq53_ok (a : Aq53) : fnE Tryz.tab envq53 noHint 0 70 186 Tryz.f186.ntmps Tryz.f186.results.toList annq53 bq53 (argsq53 a) [] (fun v _ => some (v,[])) = fnq53 a (fun y => some (rendq53 a y,[])) := by kernel_rfl
def vFq53 (a : Aq53) (K : AV → Ans) : Ans := bindO (fnDq53 a) fun y => K (rendq53 a y)
def Fq53 : List AV → (AV → Ans) → Ans := fun l K => bindO (decAq53 l) fun a => vFq53 a K
theorem Fq53_ok : PureOk Tryz.prog 186 Fq53 := pure_mkD (hint := noHint) (d := 0) (n := 70) mixed tabOk envq53Ok Tryz.func186 (bodySome (by kernel_rfl)) (by decide +kernel) annq53_ok decAq53_ok fnq53_ok fnq53_nat rendq53_ok
--@ ref02_Put
noncomputable def envq54 : Env := [(186,.pure Fq53)]
theorem envq54Ok : EnvOk Tryz.prog envq54 := EnvOk.cons Fq53_ok (EnvOk.nil)
noncomputable def bq54 : Code := Tryz.f124.body.getD .skip
noncomputable def Lq54_n0 : Code := codeAt [1,1,1,0,1,0,0] bq54
noncomputable def annLq54_n0 : Ann := .at 0 [0,1,2,7,8] (.loop .none)
theorem annLq54_n0_ok : AnnOk Tryz.prog 31 (.loop Lq54_n0) annLq54_n0 := annOk_at (annOk_none _ _ _)
abbrev Iq54_n0 := (List UInt8) × (Int)
abbrev Yq54_n0 := (List UInt8)
abbrev Vq54_n0 := (Int) × (List UInt8) × (Int)
def Sq54_n0 : Iq54_n0 → Vq54_n0 → St := fun (t0,t2) (t1,t7,t8) => { env := [(0,.str t0),(1,.int .i64 t1),(2,.int .i64 t2),(7,.str t7),(8,.int .i64 t8)],stk := [[]],H := [],blk := 507904 }
def decPq54_n0 (s : St) : Option {x : Iq54_n0 × Vq54_n0 // s = Sq54_n0 x.1 x.2} := match s with
  | { env := [(0,.str t0),(1,.int .i64 t1),(2,.int .i64 t2),(7,.str t7),(8,.int .i64 t8)],stk := [[]],H := [],blk := 507904 } => some ⟨((t0,t2),(t1,t7,t8)),rfl⟩
  | _ => none
def decq54_n0 (s : St) : Option (Iq54_n0 × Vq54_n0) := pk (decPq54_n0 s)
theorem decq54_n0_ok (s : St) (x : Iq54_n0 × Vq54_n0) (h : decq54_n0 s = some x) : s = Sq54_n0 x.1 x.2 := pk_ok (o := decPq54_n0 s) h
def outq54_n0 : Iq54_n0 → (Ex → St → Ans) → Yq54_n0 → Ans := fun (t0,t2) K => fun t7_y => K (Ex.exit 0) { env := [(0,.str t0),(7,.str t7_y)],stk := [[]],H := [],blk := 507904 }
def stepq54_n0 {β : Type} : Iq54_n0 → Vq54_n0 → (Vq54_n0 → Option β) → (Yq54_n0 → Option β) → Option β := fun (t0,t2) (t1,t7,t8) next exit => (bif decide (t8 < t2) then (bif Nat.ble (List.length (bytesOf [IntKind.wrap .u8 (Int.tmod t1 (256 : Int))]) + List.length t7) (9223372036854775807 : Nat) then (next (IntKind.wrap .i64 (Int.tdiv t1 (256 : Int)),bytesOf [IntKind.wrap .u8 (Int.tmod t1 (256 : Int))] ++ t7,IntKind.wrap .i64 (t8 + (1 : Int)))) else none) else (exit (t7)))
def stepDq54_n0 (i : Iq54_n0) (v : Vq54_n0) : Option (Vq54_n0 ⊕ Yq54_n0) := stepq54_n0 i v (fun v => some (.inl v)) (fun y => some (.inr y))
theorem stepq54_n0_nat (i : Iq54_n0) (v : Vq54_n0) (next : Vq54_n0 → Ans) (exit : Yq54_n0 → Ans) : stepq54_n0 i v next exit = bindO (stepDq54_n0 i v) (Sum.elim next exit) := by
  obtain ⟨t0,t2⟩ := i
  obtain ⟨t1,t7,t8⟩ := v
  simp only [stepDq54_n0,stepq54_n0,bindO_cond,bindO_assoc,bindO_none,bindO_pure,bindO_elim,bindO_unP,bindO_empty,Sum.elim_inl,Sum.elim_inr]
theorem stepq54_n0_ok (n : Nat) (i : Iq54_n0) (v : Vq54_n0) (K : Ex → St → Ans) : codeI Tryz.tab envq54 noHint (codeD Tryz.tab envq54 noHint 0 64) (n+1) 31 annLq54_n0 (.loop Lq54_n0) (weakP 0 (exk [0,7] [6] [(0,[0,7])]) K) (Sq54_n0 i v) = stepq54_n0 i v (fun v' => codeI Tryz.tab envq54 noHint (codeD Tryz.tab envq54 noHint 0 64) n 31 annLq54_n0 (.loop Lq54_n0) (weakP 0 (exk [0,7] [6] [(0,[0,7])]) K) (Sq54_n0 i v')) (fun y => outq54_n0 i K y) := by kernel_rfl
theorem GNq54_n0_ok : CSum Tryz.prog 31 (.loop Lq54_n0) (sumL decq54_n0 stepDq54_n0 outq54_n0) := csum_loop mixed tabOk envq54Ok 0 (exk [0,7] [6] [(0,[0,7])]) annLq54_n0_ok decq54_n0_ok stepq54_n0_ok stepq54_n0_nat
noncomputable def Gq54_n0 : (Ex → St → Ans) → St → Ans := (sumL decq54_n0 stepDq54_n0 outq54_n0)
theorem Gq54_n0_ok : CSum Tryz.prog 31 (.loop Lq54_n0) Gq54_n0 := GNq54_n0_ok
noncomputable def annq54 : Ann := (.seq .none (.seq .none (.seq .none (.seq (.seq .none (.block (.cut 0 [0,1,2,7,8] Gq54_n0))) .none))))
theorem annq54_ok : AnnOk Tryz.prog 31 bq54 annq54 := ⟨(annOk_none _ _ _),⟨(annOk_none _ _ _),⟨(annOk_none _ _ _),⟨⟨(annOk_none _ _ _),Gq54_n0_ok⟩,(annOk_none _ _ _)⟩⟩⟩⟩
abbrev Aq54 := (List UInt8) × (Int) × (Int)
abbrev Yq54 := (List UInt8)
def fnq54 {β : Type} : Aq54 → (Yq54 → Option β) → Option β := fun (a0,a1,a2) exit => (bindO (fnDq53 (a1,a2)) fun r => (bif !r then (exit (a0)) else (bindO (loopD (stepDq54_n0 (a0,a2)) FUEL (a1,[],(0 : Int))) fun t7 => (bif Nat.ble (List.length a0 + List.length t7) (9223372036854775807 : Nat) then (exit (a0 ++ t7)) else none))))
def fnDq54 (a : Aq54) : Option Yq54 := fnq54 a some
theorem fnq54_nat (a : Aq54) (k : Yq54 → Ans) : fnq54 a k = bindO (fnDq54 a) k := by
  obtain ⟨a0,a1,a2⟩ := a
  simp only [fnDq54,fnq54,bindO_cond,bindO_assoc,bindO_none,bindO_pure,bindO_elim,bindO_unP,bindO_empty]
def argsq54 : Aq54 → List AV := fun (a0,a1,a2) => [.str a0,.int .i64 a1,.int .i64 a2]
def decPAq54 (l : List AV) : Option {a : Aq54 // l = argsq54 a} := match l with
  | [.str a0,.int .i64 a1,.int .i64 a2] => some ⟨(a0,a1,a2),rfl⟩
  | _ => none
def decAq54 (l : List AV) : Option Aq54 := pk (decPAq54 l)
theorem decAq54_ok (l : List AV) (a : Aq54) (h : decAq54 l = some a) : l = argsq54 a := pk_ok (o := decPAq54 l) h
def rendq54 : Aq54 → Yq54 → AV := fun (a0,a1,a2) => fun r_y => .str r_y
theorem rendq54_ok : ∀ (a : Aq54) (y : Yq54),(rendq54 a y).closed1 = true := by
  rintro ⟨a0,a1,a2⟩ y <;> first | rfl | exact Empty.elim y
theorem fnq54_ok (a : Aq54) : fnE Tryz.tab envq54 noHint 0 70 124 Tryz.f124.ntmps Tryz.f124.results.toList annq54 bq54 (argsq54 a) [] (fun v _ => some (v,[])) = fnq54 a (fun y => some (rendq54 a y,[])) := by kernel_rfl
def vFq54 (a : Aq54) (K : AV → Ans) : Ans := bindO (fnDq54 a) fun y => K (rendq54 a y)
def Fq54 : List AV → (AV → Ans) → Ans := fun l K => bindO (decAq54 l) fun a => vFq54 a K
theorem Fq54_ok : PureOk Tryz.prog 124 Fq54 := pure_mkD (hint := noHint) (d := 0) (n := 70) mixed tabOk envq54Ok Tryz.func124 (bodySome (by kernel_rfl)) (by decide +kernel) annq54_ok decAq54_ok fnq54_ok fnq54_nat rendq54_ok
--@ ref03_Of
noncomputable def envq55 : Env := []
theorem envq55Ok : EnvOk Tryz.prog envq55 := EnvOk.nil
noncomputable def bq55 : Code := Tryz.f187.body.getD .skip
noncomputable def Lq55_n2 : Code := codeAt [1,1,0,1,0,0,1,0,0,1,1,0,0,1,0] bq55
noncomputable def annLq55_n2 : Ann := .none
theorem annLq55_n2_ok : AnnOk Tryz.prog 33 Lq55_n2 annLq55_n2 := (annOk_none _ _ _)
abbrev Iq55_n2 := (List UInt8) × (Int) × (Int) × (Int)
abbrev Yq55_n2 := (Int)
def Sq55_n2 : Iq55_n2 → St := fun (t0,t3,t4,t5) => { env := [(0,.str t0),(3,.int .i64 t3),(4,.int .i64 t4),(5,.int .i64 t5)],stk := [[]],H := [],blk := 765954 }
def decPq55_n2 (s : St) : Option {x : Iq55_n2 // s = Sq55_n2 x} := match s with
  | { env := [(0,.str t0),(3,.int .i64 t3),(4,.int .i64 t4),(5,.int .i64 t5)],stk := [[]],H := [],blk := 765954 } => some ⟨(t0,t3,t4,t5),rfl⟩
  | _ => none
def decq55_n2 (s : St) : Option Iq55_n2 := pk (decPq55_n2 s)
theorem decq55_n2_ok (s : St) (x : Iq55_n2) (h : decq55_n2 s = some x) : s = Sq55_n2 x := pk_ok (o := decPq55_n2 s) h
def outq55_n2 : Iq55_n2 → (Ex → St → Ans) → Yq55_n2 → Ans := fun (t0,t3,t4,t5) K => fun t3_y => K (Ex.norm) { env := [(0,.str t0),(3,.int .i64 t3_y),(4,.int .i64 t4),(5,.int .i64 t5)],stk := [[]],H := [],blk := 765955 }
def nodeq55_n2 {β : Type} : Iq55_n2 → (Yq55_n2 → Option β) → Option β := fun (t0,t3,t4,t5) exit => (bif Int.tmod t3 (2 : Int) == (1 : Int) then (exit (IntKind.wrap .i64 (↑(Int.toNat (IntKind.wrap .i64 (Int.tdiv t3 (2 : Int)) % (18446744073709551616 : Int)) ^^^ (3988292384 : Nat)) : Int))) else (exit (IntKind.wrap .i64 (Int.tdiv t3 (2 : Int)))))
def nodeDq55_n2 (i : Iq55_n2) : Option Yq55_n2 := nodeq55_n2 i some
theorem nodeq55_n2_nat (i : Iq55_n2) (k : Yq55_n2 → Ans) : nodeq55_n2 i k = bindO (nodeDq55_n2 i) k := by
  obtain ⟨t0,t3,t4,t5⟩ := i
  simp only [nodeDq55_n2,nodeq55_n2,bindO_cond,bindO_assoc,bindO_none,bindO_pure,bindO_elim,bindO_unP,bindO_empty]
theorem nodeq55_n2_ok (i : Iq55_n2) (K : Ex → St → Ans) : codeI Tryz.tab envq55 noHint (codeD Tryz.tab envq55 noHint 0 64) 70 33 annLq55_n2 Lq55_n2 (weakP 0 (exk [0,3,4,5] [2] []) K) (Sq55_n2 i) = nodeq55_n2 i (outq55_n2 i K) := by kernel_rfl
theorem GNq55_n2_ok : CSum Tryz.prog 33 Lq55_n2 (sumN decq55_n2 nodeDq55_n2 outq55_n2) := csum_node mixed tabOk envq55Ok 0 (exk [0,3,4,5] [2] []) annLq55_n2_ok decq55_n2_ok nodeq55_n2_ok nodeq55_n2_nat
noncomputable def Gq55_n2 : (Ex → St → Ans) → St → Ans := (sumN decq55_n2 nodeDq55_n2 outq55_n2)
theorem Gq55_n2_ok : CSum Tryz.prog 33 Lq55_n2 Gq55_n2 := GNq55_n2_ok
noncomputable def Lq55_n1 : Code := codeAt [1,1,0,1,0,0,1,0,0,1,1,0,0] bq55
noncomputable def annLq55_n1 : Ann := .at 0 [0,3,4,5] (.loop (.seq .none (.seq (.cut 0 [0,3,4,5] Gq55_n2) .none)))
theorem annLq55_n1_ok : AnnOk Tryz.prog 33 (.loop Lq55_n1) annLq55_n1 := annOk_at ⟨(annOk_none _ _ _),⟨Gq55_n2_ok,(annOk_none _ _ _)⟩⟩
abbrev Iq55_n1 := (List UInt8) × (Int)
abbrev Yq55_n1 := (Int)
abbrev Vq55_n1 := (Int) × (Int)
def Sq55_n1 : Iq55_n1 → Vq55_n1 → St := fun (t0,t4) (t3,t5) => { env := [(0,.str t0),(3,.int .i64 t3),(4,.int .i64 t4),(5,.int .i64 t5)],stk := [[]],H := [],blk := 765954 }
def decPq55_n1 (s : St) : Option {x : Iq55_n1 × Vq55_n1 // s = Sq55_n1 x.1 x.2} := match s with
  | { env := [(0,.str t0),(3,.int .i64 t3),(4,.int .i64 t4),(5,.int .i64 t5)],stk := [[]],H := [],blk := 765954 } => some ⟨((t0,t4),(t3,t5)),rfl⟩
  | _ => none
def decq55_n1 (s : St) : Option (Iq55_n1 × Vq55_n1) := pk (decPq55_n1 s)
theorem decq55_n1_ok (s : St) (x : Iq55_n1 × Vq55_n1) (h : decq55_n1 s = some x) : s = Sq55_n1 x.1 x.2 := pk_ok (o := decPq55_n1 s) h
def outq55_n1 : Iq55_n1 → (Ex → St → Ans) → Yq55_n1 → Ans := fun (t0,t4) K => fun t3_y => K (Ex.exit 2) { env := [(0,.str t0),(3,.int .i64 t3_y),(4,.int .i64 t4)],stk := [[]],H := [],blk := 765954 }
def stepq55_n1 {β : Type} : Iq55_n1 → Vq55_n1 → (Vq55_n1 → Option β) → (Yq55_n1 → Option β) → Option β := fun (t0,t4) (t3,t5) next exit => (bif decide (t5 < (8 : Int)) then (bindO (nodeDq55_n2 (t0,t3,t4,t5)) fun t3_2 => (next (t3_2,IntKind.wrap .i64 (t5 + (1 : Int))))) else (exit (t3)))
def stepDq55_n1 (i : Iq55_n1) (v : Vq55_n1) : Option (Vq55_n1 ⊕ Yq55_n1) := stepq55_n1 i v (fun v => some (.inl v)) (fun y => some (.inr y))
theorem stepq55_n1_nat (i : Iq55_n1) (v : Vq55_n1) (next : Vq55_n1 → Ans) (exit : Yq55_n1 → Ans) : stepq55_n1 i v next exit = bindO (stepDq55_n1 i v) (Sum.elim next exit) := by
  obtain ⟨t0,t4⟩ := i
  obtain ⟨t3,t5⟩ := v
  simp only [stepDq55_n1,stepq55_n1,bindO_cond,bindO_assoc,bindO_none,bindO_pure,bindO_elim,bindO_unP,bindO_empty,Sum.elim_inl,Sum.elim_inr]
theorem stepq55_n1_ok (n : Nat) (i : Iq55_n1) (v : Vq55_n1) (K : Ex → St → Ans) : codeI Tryz.tab envq55 noHint (codeD Tryz.tab envq55 noHint 0 64) (n+1) 33 annLq55_n1 (.loop Lq55_n1) (weakP 0 (exk [0,3,4] [2] [(2,[0,3,4])]) K) (Sq55_n1 i v) = stepq55_n1 i v (fun v' => codeI Tryz.tab envq55 noHint (codeD Tryz.tab envq55 noHint 0 64) n 33 annLq55_n1 (.loop Lq55_n1) (weakP 0 (exk [0,3,4] [2] [(2,[0,3,4])]) K) (Sq55_n1 i v')) (fun y => outq55_n1 i K y) := by kernel_rfl
theorem GNq55_n1_ok : CSum Tryz.prog 33 (.loop Lq55_n1) (sumL decq55_n1 stepDq55_n1 outq55_n1) := csum_loop mixed tabOk envq55Ok 0 (exk [0,3,4] [2] [(2,[0,3,4])]) annLq55_n1_ok decq55_n1_ok stepq55_n1_ok stepq55_n1_nat
noncomputable def Gq55_n1 : (Ex → St → Ans) → St → Ans := (sumL decq55_n1 stepDq55_n1 outq55_n1)
theorem Gq55_n1_ok : CSum Tryz.prog 33 (.loop Lq55_n1) Gq55_n1 := GNq55_n1_ok
noncomputable def Lq55_n0 : Code := codeAt [1,1,0,1,0,0] bq55
noncomputable def annLq55_n0 : Ann := .at 0 [0,3,4] (.loop (.seq .none (.seq (.block (.seq .none (.seq .none (.block (.cut 0 [0,3,4,5] Gq55_n1))))) .none)))
theorem annLq55_n0_ok : AnnOk Tryz.prog 33 (.loop Lq55_n0) annLq55_n0 := annOk_at ⟨(annOk_none _ _ _),⟨⟨(annOk_none _ _ _),⟨(annOk_none _ _ _),Gq55_n1_ok⟩⟩,(annOk_none _ _ _)⟩⟩
abbrev Iq55_n0 := (List UInt8)
abbrev Yq55_n0 := (Int)
abbrev Vq55_n0 := (Int) × (Int)
def Sq55_n0 : Iq55_n0 → Vq55_n0 → St := fun t0 (t3,t4) => { env := [(0,.str t0),(3,.int .i64 t3),(4,.int .i64 t4)],stk := [[]],H := [],blk := 765952 }
def decPq55_n0 (s : St) : Option {x : Iq55_n0 × Vq55_n0 // s = Sq55_n0 x.1 x.2} := match s with
  | { env := [(0,.str t0),(3,.int .i64 t3),(4,.int .i64 t4)],stk := [[]],H := [],blk := 765952 } => some ⟨(t0,(t3,t4)),rfl⟩
  | _ => none
def decq55_n0 (s : St) : Option (Iq55_n0 × Vq55_n0) := pk (decPq55_n0 s)
theorem decq55_n0_ok (s : St) (x : Iq55_n0 × Vq55_n0) (h : decq55_n0 s = some x) : s = Sq55_n0 x.1 x.2 := pk_ok (o := decPq55_n0 s) h
def outq55_n0 : Iq55_n0 → (Ex → St → Ans) → Yq55_n0 → Ans := fun t0 K => fun t3_y => K (Ex.exit 0) { env := [(3,.int .i64 t3_y)],stk := [[]],H := [],blk := 765952 }
def stepq55_n0 {β : Type} : Iq55_n0 → Vq55_n0 → (Vq55_n0 → Option β) → (Yq55_n0 → Option β) → Option β := fun t0 (t3,t4) next exit => (bif decide (t4 < (↑(List.length t0) : Int)) then (bindO (nth t0 t4) fun x => (bindO (loopD (stepDq55_n1 (t0,t4)) FUEL (IntKind.wrap .i64 (↑(Int.toNat (t3 % (18446744073709551616 : Int)) ^^^ Int.toNat (IntKind.wrap .i64 (↑(UInt8.toNat x) : Int) % (18446744073709551616 : Int))) : Int),(0 : Int))) fun t3_2 => (next (t3_2,IntKind.wrap .i64 (t4 + (1 : Int)))))) else (exit (t3)))
def stepDq55_n0 (i : Iq55_n0) (v : Vq55_n0) : Option (Vq55_n0 ⊕ Yq55_n0) := stepq55_n0 i v (fun v => some (.inl v)) (fun y => some (.inr y))
theorem stepq55_n0_nat (i : Iq55_n0) (v : Vq55_n0) (next : Vq55_n0 → Ans) (exit : Yq55_n0 → Ans) : stepq55_n0 i v next exit = bindO (stepDq55_n0 i v) (Sum.elim next exit) := by
  obtain z := i
  obtain ⟨t3,t4⟩ := v
  simp only [stepDq55_n0,stepq55_n0,bindO_cond,bindO_assoc,bindO_none,bindO_pure,bindO_elim,bindO_unP,bindO_empty,Sum.elim_inl,Sum.elim_inr]
theorem stepq55_n0_ok (n : Nat) (i : Iq55_n0) (v : Vq55_n0) (K : Ex → St → Ans) : codeI Tryz.tab envq55 noHint (codeD Tryz.tab envq55 noHint 0 64) (n+1) 33 annLq55_n0 (.loop Lq55_n0) (weakP 0 (exk [3] [2] [(0,[3])]) K) (Sq55_n0 i v) = stepq55_n0 i v (fun v' => codeI Tryz.tab envq55 noHint (codeD Tryz.tab envq55 noHint 0 64) n 33 annLq55_n0 (.loop Lq55_n0) (weakP 0 (exk [3] [2] [(0,[3])]) K) (Sq55_n0 i v')) (fun y => outq55_n0 i K y) := by kernel_rfl
theorem GNq55_n0_ok : CSum Tryz.prog 33 (.loop Lq55_n0) (sumL decq55_n0 stepDq55_n0 outq55_n0) := csum_loop mixed tabOk envq55Ok 0 (exk [3] [2] [(0,[3])]) annLq55_n0_ok decq55_n0_ok stepq55_n0_ok stepq55_n0_nat
noncomputable def Gq55_n0 : (Ex → St → Ans) → St → Ans := (sumL decq55_n0 stepDq55_n0 outq55_n0)
theorem Gq55_n0_ok : CSum Tryz.prog 33 (.loop Lq55_n0) Gq55_n0 := GNq55_n0_ok
noncomputable def annq55 : Ann := (.seq .none (.seq .none (.seq (.seq .none (.block (.cut 0 [0,3,4] Gq55_n0))) .none)))
theorem annq55_ok : AnnOk Tryz.prog 33 bq55 annq55 := ⟨(annOk_none _ _ _),⟨(annOk_none _ _ _),⟨⟨(annOk_none _ _ _),Gq55_n0_ok⟩,(annOk_none _ _ _)⟩⟩⟩
abbrev Aq55 := (List UInt8)
abbrev Yq55 := (Int)
def fnq55 {β : Type} : Aq55 → (Yq55 → Option β) → Option β := fun a0 exit => (bindO (loopD (stepDq55_n0 (a0)) FUEL ((4294967295 : Int),(0 : Int))) fun t3 => (exit (IntKind.wrap .i64 (↑(Int.toNat (t3 % (18446744073709551616 : Int)) ^^^ (4294967295 : Nat)) : Int))))
def fnDq55 (a : Aq55) : Option Yq55 := fnq55 a some
theorem fnq55_nat (a : Aq55) (k : Yq55 → Ans) : fnq55 a k = bindO (fnDq55 a) k := by
  obtain z := a
  simp only [fnDq55,fnq55,bindO_cond,bindO_assoc,bindO_none,bindO_pure,bindO_elim,bindO_unP,bindO_empty]
def argsq55 : Aq55 → List AV := fun a0 => [.str a0]
def decPAq55 (l : List AV) : Option {a : Aq55 // l = argsq55 a} := match l with
  | [.str a0] => some ⟨(a0),rfl⟩
  | _ => none
def decAq55 (l : List AV) : Option Aq55 := pk (decPAq55 l)
theorem decAq55_ok (l : List AV) (a : Aq55) (h : decAq55 l = some a) : l = argsq55 a := pk_ok (o := decPAq55 l) h
def rendq55 : Aq55 → Yq55 → AV := fun a0 => fun r_y => .int .i64 r_y
theorem rendq55_ok : ∀ (a : Aq55) (y : Yq55),(rendq55 a y).closed1 = true := by
  rintro z y <;> first | rfl | exact Empty.elim y
theorem fnq55_ok (a : Aq55) : fnE Tryz.tab envq55 noHint 0 70 187 Tryz.f187.ntmps Tryz.f187.results.toList annq55 bq55 (argsq55 a) [] (fun v _ => some (v,[])) = fnq55 a (fun y => some (rendq55 a y,[])) := by kernel_rfl
def vFq55 (a : Aq55) (K : AV → Ans) : Ans := bindO (fnDq55 a) fun y => K (rendq55 a y)
def Fq55 : List AV → (AV → Ans) → Ans := fun l K => bindO (decAq55 l) fun a => vFq55 a K
theorem Fq55_ok : PureOk Tryz.prog 187 Fq55 := pure_mkD (hint := noHint) (d := 0) (n := 70) mixed tabOk envq55Ok Tryz.func187 (bodySome (by kernel_rfl)) (by decide +kernel) annq55_ok decAq55_ok fnq55_ok fnq55_nat rendq55_ok
--@ ref03_Tail
noncomputable def envq56 : Env := [(187,.pure Fq55)]
theorem envq56Ok : EnvOk Tryz.prog envq56 := EnvOk.cons Fq55_ok (EnvOk.nil)
noncomputable def bq56 : Code := Tryz.f126.body.getD .skip
noncomputable def annq56 : Ann := .none
theorem annq56_ok : AnnOk Tryz.prog 23 bq56 annq56 := (annOk_none _ _ _)
abbrev Aq56 := (List UInt8)
abbrev Yq56 := (List UInt8)
def fnq56 {β : Type} : Aq56 → (Yq56 → Option β) → Option β := fun a0 exit => (bindO (fnDq55 (a0)) fun r => (exit (bytesOf [IntKind.wrap .u8 (Int.tmod r (256 : Int)),IntKind.wrap .u8 (Int.tmod (IntKind.wrap .i64 (Int.tdiv r (256 : Int))) (256 : Int)),IntKind.wrap .u8 (Int.tmod (IntKind.wrap .i64 (Int.tdiv r (65536 : Int))) (256 : Int)),IntKind.wrap .u8 (Int.tmod (IntKind.wrap .i64 (Int.tdiv r (16777216 : Int))) (256 : Int))])))
def fnDq56 (a : Aq56) : Option Yq56 := fnq56 a some
theorem fnq56_nat (a : Aq56) (k : Yq56 → Ans) : fnq56 a k = bindO (fnDq56 a) k := by
  obtain z := a
  simp only [fnDq56,fnq56,bindO_cond,bindO_assoc,bindO_none,bindO_pure,bindO_elim,bindO_unP,bindO_empty]
def argsq56 : Aq56 → List AV := fun a0 => [.str a0]
def decPAq56 (l : List AV) : Option {a : Aq56 // l = argsq56 a} := match l with
  | [.str a0] => some ⟨(a0),rfl⟩
  | _ => none
def decAq56 (l : List AV) : Option Aq56 := pk (decPAq56 l)
theorem decAq56_ok (l : List AV) (a : Aq56) (h : decAq56 l = some a) : l = argsq56 a := pk_ok (o := decPAq56 l) h
def rendq56 : Aq56 → Yq56 → AV := fun a0 => fun r_y => .str r_y
theorem rendq56_ok : ∀ (a : Aq56) (y : Yq56),(rendq56 a y).closed1 = true := by
  rintro z y <;> first | rfl | exact Empty.elim y
theorem fnq56_ok (a : Aq56) : fnE Tryz.tab envq56 noHint 0 70 126 Tryz.f126.ntmps Tryz.f126.results.toList annq56 bq56 (argsq56 a) [] (fun v _ => some (v,[])) = fnq56 a (fun y => some (rendq56 a y,[])) := by kernel_rfl
def vFq56 (a : Aq56) (K : AV → Ans) : Ans := bindO (fnDq56 a) fun y => K (rendq56 a y)
def Fq56 : List AV → (AV → Ans) → Ans := fun l K => bindO (decAq56 l) fun a => vFq56 a K
theorem Fq56_ok : PureOk Tryz.prog 126 Fq56 := pure_mkD (hint := noHint) (d := 0) (n := 70) mixed tabOk envq56Ok Tryz.func126 (bodySome (by kernel_rfl)) (by decide +kernel) annq56_ok decAq56_ok fnq56_ok fnq56_nat rendq56_ok
--@ ref09_Pad
noncomputable def envq61 : Env := []
theorem envq61Ok : EnvOk Tryz.prog envq61 := EnvOk.nil
noncomputable def bq61 : Code := Tryz.f125.body.getD .skip
noncomputable def Lq61_n0 : Code := codeAt [1,0,0,0] bq61
noncomputable def annLq61_n0 : Ann := .at 0 [0] (.loop .none)
theorem annLq61_n0_ok : AnnOk Tryz.prog 10 (.loop Lq61_n0) annLq61_n0 := annOk_at (annOk_none _ _ _)
abbrev Iq61_n0 := Unit
abbrev Yq61_n0 := (List UInt8)
abbrev Vq61_n0 := (List UInt8)
def Sq61_n0 : Iq61_n0 → Vq61_n0 → St := fun _ t0 => { env := [(0,.str t0)],stk := [[]],H := [],blk := 512000 }
def decPq61_n0 (s : St) : Option {x : Iq61_n0 × Vq61_n0 // s = Sq61_n0 x.1 x.2} := match s with
  | { env := [(0,.str t0)],stk := [[]],H := [],blk := 512000 } => some ⟨((),t0),rfl⟩
  | _ => none
def decq61_n0 (s : St) : Option (Iq61_n0 × Vq61_n0) := pk (decPq61_n0 s)
theorem decq61_n0_ok (s : St) (x : Iq61_n0 × Vq61_n0) (h : decq61_n0 s = some x) : s = Sq61_n0 x.1 x.2 := pk_ok (o := decPq61_n0 s) h
def outq61_n0 : Iq61_n0 → (Ex → St → Ans) → Yq61_n0 → Ans := fun _ K => fun t0_y => K (Ex.exit 0) { env := [(0,.str t0_y)],stk := [[]],H := [],blk := 512000 }
def stepq61_n0 {β : Type} : Iq61_n0 → Vq61_n0 → (Vq61_n0 → Option β) → (Yq61_n0 → Option β) → Option β := fun _ t0 next exit => (bif Int.tmod (↑(List.length t0) : Int) (64 : Int) != (0 : Int) then (bif Nat.ble (List.length t0 + (1 : Nat)) (9223372036854775807 : Nat) then (next (t0 ++ [(0 : UInt8)])) else none) else (exit (t0)))
def stepDq61_n0 (i : Iq61_n0) (v : Vq61_n0) : Option (Vq61_n0 ⊕ Yq61_n0) := stepq61_n0 i v (fun v => some (.inl v)) (fun y => some (.inr y))
theorem stepq61_n0_nat (i : Iq61_n0) (v : Vq61_n0) (next : Vq61_n0 → Ans) (exit : Yq61_n0 → Ans) : stepq61_n0 i v next exit = bindO (stepDq61_n0 i v) (Sum.elim next exit) := by
  obtain z := i
  obtain z := v
  simp only [stepDq61_n0,stepq61_n0,bindO_cond,bindO_assoc,bindO_none,bindO_pure,bindO_elim,bindO_unP,bindO_empty,Sum.elim_inl,Sum.elim_inr]
theorem stepq61_n0_ok (n : Nat) (i : Iq61_n0) (v : Vq61_n0) (K : Ex → St → Ans) : codeI Tryz.tab envq61 noHint (codeD Tryz.tab envq61 noHint 0 64) (n+1) 10 annLq61_n0 (.loop Lq61_n0) (weakP 0 (exk [0] [2] [(0,[0])]) K) (Sq61_n0 i v) = stepq61_n0 i v (fun v' => codeI Tryz.tab envq61 noHint (codeD Tryz.tab envq61 noHint 0 64) n 10 annLq61_n0 (.loop Lq61_n0) (weakP 0 (exk [0] [2] [(0,[0])]) K) (Sq61_n0 i v')) (fun y => outq61_n0 i K y) := by kernel_rfl
theorem GNq61_n0_ok : CSum Tryz.prog 10 (.loop Lq61_n0) (sumL decq61_n0 stepDq61_n0 outq61_n0) := csum_loop mixed tabOk envq61Ok 0 (exk [0] [2] [(0,[0])]) annLq61_n0_ok decq61_n0_ok stepq61_n0_ok stepq61_n0_nat
noncomputable def Gq61_n0 : (Ex → St → Ans) → St → Ans := (sumL decq61_n0 stepDq61_n0 outq61_n0)
theorem Gq61_n0_ok : CSum Tryz.prog 10 (.loop Lq61_n0) Gq61_n0 := GNq61_n0_ok
noncomputable def annq61 : Ann := (.seq .none (.seq (.block (.cut 0 [0] Gq61_n0)) .none))
theorem annq61_ok : AnnOk Tryz.prog 10 bq61 annq61 := ⟨(annOk_none _ _ _),⟨Gq61_n0_ok,(annOk_none _ _ _)⟩⟩
abbrev Aq61 := (List UInt8)
abbrev Yq61 := (List UInt8)
def fnq61 {β : Type} : Aq61 → (Yq61 → Option β) → Option β := fun a0 exit => (bindO (loopD (stepDq61_n0 ()) FUEL (a0)) fun t0 => (exit (t0)))
def fnDq61 (a : Aq61) : Option Yq61 := fnq61 a some
theorem fnq61_nat (a : Aq61) (k : Yq61 → Ans) : fnq61 a k = bindO (fnDq61 a) k := by
  obtain z := a
  simp only [fnDq61,fnq61,bindO_cond,bindO_assoc,bindO_none,bindO_pure,bindO_elim,bindO_unP,bindO_empty]
def argsq61 : Aq61 → List AV := fun a0 => [.str a0]
def decPAq61 (l : List AV) : Option {a : Aq61 // l = argsq61 a} := match l with
  | [.str a0] => some ⟨(a0),rfl⟩
  | _ => none
def decAq61 (l : List AV) : Option Aq61 := pk (decPAq61 l)
theorem decAq61_ok (l : List AV) (a : Aq61) (h : decAq61 l = some a) : l = argsq61 a := pk_ok (o := decPAq61 l) h
def rendq61 : Aq61 → Yq61 → AV := fun a0 => fun r_y => .str r_y
theorem rendq61_ok : ∀ (a : Aq61) (y : Yq61),(rendq61 a y).closed1 = true := by
  rintro z y <;> first | rfl | exact Empty.elim y
theorem fnq61_ok (a : Aq61) : fnE Tryz.tab envq61 noHint 0 70 125 Tryz.f125.ntmps Tryz.f125.results.toList annq61 bq61 (argsq61 a) [] (fun v _ => some (v,[])) = fnq61 a (fun y => some (rendq61 a y,[])) := by kernel_rfl
def vFq61 (a : Aq61) (K : AV → Ans) : Ans := bindO (fnDq61 a) fun y => K (rendq61 a y)
def Fq61 : List AV → (AV → Ans) → Ans := fun l K => bindO (decAq61 l) fun a => vFq61 a K
theorem Fq61_ok : PureOk Tryz.prog 125 Fq61 := pure_mkD (hint := noHint) (d := 0) (n := 70) mixed tabOk envq61Ok Tryz.func125 (bodySome (by kernel_rfl)) (by decide +kernel) annq61_ok decAq61_ok fnq61_ok fnq61_nat rendq61_ok
end Go.Proofs.R7
namespace Go.Proofs.R7
open Go Go.AE
noncomputable def base7x : Env := [(140, .pure Fq29), (68, .pure Fq25), (117, .pure Fq28), (116, .pure Fq27), (108, .func Fq92), (28, .func Fq13), (37, .pure Fq26), (161, .func Fq8), (210, .pure Fq76), (169, .func Fq69), (171, .func Fq74), (241, .pure Fq91), (218, .pure Fq89), (181, .func Fq10), (182, .func Fq12), (159, .func Fq9), (106, .func Fq75), (96, .func Fq71), (238, .pure Fq34), (211, .pure Fq31), (189, .pure Fq20), (184, .pure Fq14), (121, .pure Fq16), (220, .func Fq0), (242, .pure Fq5), (221, .func Fq2), (222, .func Fq3), (185, .pure Fq1), (123, .pure Fq4), (122, .pure Fq70), (172, .pure Fq33), (141, .func Fq11), (115, .func Fq6), (114, .func Fq7), (118, .func Fq93), (177, .func Fq73), (129, .func Fq15), (188, .func Fq19), (130, .func Fq17), (131, .func Fq18), (216, .pure Fq30), (178, .pure Fq32), (209, .func Fq72), (260, .pure Fq39), (165, .pure Fq40), (208, .func Fq36), (237, .func Fq90), (207, .func Fq88), (164, .pure Fq35), (102, .pure Fq38), (261, .func Fq37), (109, .pure Fstrings_Repeat), (119, .func FBuilder_String), (183, .func FBuilder_copyCheck), (100205, .iter (eachBeginC .str) (eachNext .str))]
theorem base7x_ok : EnvOk Tryz.prog base7x := EnvOk.cons Fq29_ok (EnvOk.cons Fq25_ok (EnvOk.cons Fq28_ok (EnvOk.cons Fq27_ok (EnvOk.cons Fq92_ok (EnvOk.cons Fq13_ok (EnvOk.cons Fq26_ok (EnvOk.cons Fq8_ok (EnvOk.cons Fq76_ok (EnvOk.cons Fq69_ok (EnvOk.cons Fq74_ok (EnvOk.cons Fq91_ok (EnvOk.cons Fq89_ok (EnvOk.cons Fq10_ok (EnvOk.cons Fq12_ok (EnvOk.cons Fq9_ok (EnvOk.cons Fq75_ok (EnvOk.cons Fq71_ok (EnvOk.cons Fq34_ok (EnvOk.cons Fq31_ok (EnvOk.cons Fq20_ok (EnvOk.cons Fq14_ok (EnvOk.cons Fq16_ok (EnvOk.cons Fq0_ok (EnvOk.cons Fq5_ok (EnvOk.cons Fq2_ok (EnvOk.cons Fq3_ok (EnvOk.cons Fq1_ok (EnvOk.cons Fq4_ok (EnvOk.cons Fq70_ok (EnvOk.cons Fq33_ok (EnvOk.cons Fq11_ok (EnvOk.cons Fq6_ok (EnvOk.cons Fq7_ok (EnvOk.cons Fq93_ok (EnvOk.cons Fq73_ok (EnvOk.cons Fq15_ok (EnvOk.cons Fq19_ok (EnvOk.cons Fq17_ok (EnvOk.cons Fq18_ok (EnvOk.cons Fq30_ok (EnvOk.cons Fq32_ok (EnvOk.cons Fq72_ok (EnvOk.cons Fq39_ok (EnvOk.cons Fq40_ok (EnvOk.cons Fq36_ok (EnvOk.cons Fq90_ok (EnvOk.cons Fq88_ok (EnvOk.cons Fq35_ok (EnvOk.cons Fq38_ok (EnvOk.cons Fq37_ok (EnvOk.cons Fstrings_Repeat_ok (EnvOk.cons FBuilder_String_ok (EnvOk.cons FBuilder_copyCheck_ok (EnvOk.cons (eachBeginC_eq ▸ iter205_spec) (EnvOk.nil)))))))))))))))))))))))))))))))))))))))))))))))))))))))
def runs7x : List RunI := [
  ⟨21, false, []⟩,
  ⟨22, false, []⟩,
  ⟨23, false, []⟩,
  ⟨24, false, []⟩,
  ⟨26, false, [(0, [0, 2, 3, 17, 104])]⟩,
  ⟨27, false, [(0, [7, 9, 26]), (2, [7, 9, 44, 45])]⟩,
  ⟨29, false, [(0, [8, 28, 29, 30])]⟩,
  ⟨30, false, []⟩,
  ⟨33, false, []⟩,
  ⟨35, false, []⟩,
  ⟨43, true, [(0, [1, 5, 31, 32, 33])]⟩,
  ⟨45, true, []⟩,
  ⟨47, true, []⟩,
  ⟨69, false, []⟩,
  ⟨70, false, []⟩,
  ⟨71, false, []⟩,
  ⟨93, false, []⟩,
  ⟨94, false, []⟩,
  ⟨95, false, [(0, [2, 3, 4, 24, 79])]⟩,
  ⟨97, false, []⟩,
  ⟨98, false, []⟩,
  ⟨99, false, [(0, [3, 4, 10, 16])]⟩,
  ⟨100, false, []⟩,
  ⟨101, false, []⟩,
  ⟨103, false, [(1, [7, 9, 10])]⟩,
  ⟨104, false, [(0, [1, 12, 23])]⟩,
  ⟨105, false, []⟩,
  ⟨107, false, []⟩,
  ⟨110, false, []⟩,
  ⟨111, false, [(0, [0, 27, 28, 29]), (2, [0, 6, 27, 28, 29, 34, 35, 36])]⟩,
  ⟨112, false, []⟩,
  ⟨113, false, []⟩,
  ⟨127, true, []⟩,
  ⟨157, false, []⟩,
  ⟨158, false, []⟩,
  ⟨160, false, []⟩,
  ⟨162, false, []⟩,
  ⟨163, false, []⟩,
  ⟨166, false, []⟩,
  ⟨167, false, []⟩,
  ⟨168, false, []⟩,
  ⟨170, false, []⟩,
  ⟨173, true, []⟩,
  ⟨179, false, []⟩,
  ⟨180, false, []⟩,
  ⟨212, true, []⟩,
  ⟨213, true, []⟩,
  ⟨217, false, [(0, [0])]⟩,
  ⟨240, false, []⟩,
  ⟨259, false, [(0, [0, 1, 8, 12, 13])]⟩]
theorem runs7x_ok : runs7x.all (RunI.ok Tryz.prog) = true := by kernel_rfl
noncomputable def lo7x : Lo := loQ Tryz.prog Tryz.tab base7x runs7x 40
theorem lo7x_ok : LoOk Tryz.prog lo7x := loQ_ok mixed tabOk base7x_ok runs7x_ok 40
end Go.Proofs.R7
namespace Go.Proofs.R7
open Go Go.AE
set_option maxRecDepth 100000
def begunH : List AE.Obj :=
  [.cells [(.own 2), (.map 3), (.own 4), (.int .i64 33), (.own 5), (.int .i64 0), (.bool false)],
  .cells [(.ptr 0 0), (.ptr 6 0), (.ptr 7 0), (.int .i64 15), (.int .i64 24), (.int .i64 2), (.int .i64 0), (.int .i64 25), (.int .i64 0), (.bool true), (.bool false), (.ptr 8 0)],
  .arr .str (List.replicate 15 (List.replicate 64 0) ++ [([76, 0, 0, 0, 0, 0, 2, 0, 0, 0, 0, 0, 25, 0, 0, 7, 97, 220, 101] ++ List.replicate 45 0), ([76, 0, 0, 0, 0, 0, 1, 0, 0, 0, 0, 0, 1, 0, 0, 10, 175, 100, 78] ++ List.replicate 45 0)] ++ List.replicate 22 (List.replicate 64 0)),
  .mp .i64 .str [],
  .arr (.st (.pair (.int .i64) .str)) [],
  .arr (.int .i64) [],
  .cells [(.ptr 0 0), (.int .i64 15), (.int .i64 2)],
  .cells [(.ptr 0 0), (.int .i64 17), (.int .i64 22)],
  .cells [(.map 9), (.map 10)],
  .mp .i64 .str [],
  .mp .i64 .str []]
def begunV : AV := (.tup [(.ptr 0 0), (.ptr 1 0)])
theorem runBegun (K : AV → List AE.Obj → Ans) : runQ Tryz.tab lo7x ⟨35, false, []⟩ Tryz.f35 [.agg [.int .i64 3, .int .i64 1, .int .i64 24]] [] K = K begunV begunH := by kernel_rfl
noncomputable def FBegun : List AV → List AE.Obj → (AV → List AE.Obj → Ans) → Ans := fun l H K => match l, H with
  | [.agg [.int .i64 a, .int .i64 b, .int .i64 c]], [] => cond (eqB a 3 && eqB b 1 && eqB c 24) (K begunV begunH) none
  | _, _ => none
theorem FBegun_ok : FuncOk Tryz.prog 35 FBegun :=
  konstHQ (i := ⟨35, false, []⟩) mixed tabOk lo7x_ok Tryz.func35 (by kernel_rfl) (by decide +kernel) (fun l H K res h => by
    unfold FBegun at h
    split at h
    · replace h := cond_none h
      simp only [Bool.and_eq_true, eqB_eq, beq_iff_eq] at h
      obtain ⟨⟨⟨rfl, rfl⟩, rfl⟩, h⟩ := h
      exact ⟨rfl, rfl, h⟩
    · cases h) runBegun
end Go.Proofs.R7
namespace Go.Proofs.R7
open Go Go.AE
noncomputable def base19 : Env := [(140, .pure Fq29), (68, .pure Fq25), (117, .pure Fq28), (116, .pure Fq27), (108, .func Fq92), (28, .func Fq13), (37, .pure Fq26), (161, .func Fq8), (210, .pure Fq76), (169, .func Fq69), (171, .func Fq74), (241, .pure Fq91), (218, .pure Fq89), (181, .func Fq10), (182, .func Fq12), (159, .func Fq9), (106, .func Fq75), (96, .func Fq71), (238, .pure Fq34), (211, .pure Fq31), (189, .pure Fq20), (184, .pure Fq14), (121, .pure Fq16), (220, .func Fq0), (242, .pure Fq5), (221, .func Fq2), (222, .func Fq3), (185, .pure Fq1), (123, .pure Fq4), (122, .pure Fq70), (172, .pure Fq33), (141, .func Fq11), (115, .func Fq6), (114, .func Fq7), (118, .func Fq93), (177, .func Fq73), (129, .func Fq15), (188, .func Fq19), (130, .func Fq17), (131, .func Fq18), (216, .pure Fq30), (178, .pure Fq32), (209, .func Fq72), (260, .pure Fq39), (165, .pure Fq40), (208, .func Fq36), (237, .func Fq90), (207, .func Fq88), (164, .pure Fq35), (102, .pure Fq38), (261, .func Fq37), (109, .pure Fstrings_Repeat), (119, .func FBuilder_String), (183, .func FBuilder_copyCheck), (100205, .iter (eachBeginC .str) (eachNext .str)), (35, .func FBegun)]
theorem base19_ok : EnvOk Tryz.prog base19 := EnvOk.cons Fq29_ok (EnvOk.cons Fq25_ok (EnvOk.cons Fq28_ok (EnvOk.cons Fq27_ok (EnvOk.cons Fq92_ok (EnvOk.cons Fq13_ok (EnvOk.cons Fq26_ok (EnvOk.cons Fq8_ok (EnvOk.cons Fq76_ok (EnvOk.cons Fq69_ok (EnvOk.cons Fq74_ok (EnvOk.cons Fq91_ok (EnvOk.cons Fq89_ok (EnvOk.cons Fq10_ok (EnvOk.cons Fq12_ok (EnvOk.cons Fq9_ok (EnvOk.cons Fq75_ok (EnvOk.cons Fq71_ok (EnvOk.cons Fq34_ok (EnvOk.cons Fq31_ok (EnvOk.cons Fq20_ok (EnvOk.cons Fq14_ok (EnvOk.cons Fq16_ok (EnvOk.cons Fq0_ok (EnvOk.cons Fq5_ok (EnvOk.cons Fq2_ok (EnvOk.cons Fq3_ok (EnvOk.cons Fq1_ok (EnvOk.cons Fq4_ok (EnvOk.cons Fq70_ok (EnvOk.cons Fq33_ok (EnvOk.cons Fq11_ok (EnvOk.cons Fq6_ok (EnvOk.cons Fq7_ok (EnvOk.cons Fq93_ok (EnvOk.cons Fq73_ok (EnvOk.cons Fq15_ok (EnvOk.cons Fq19_ok (EnvOk.cons Fq17_ok (EnvOk.cons Fq18_ok (EnvOk.cons Fq30_ok (EnvOk.cons Fq32_ok (EnvOk.cons Fq72_ok (EnvOk.cons Fq39_ok (EnvOk.cons Fq40_ok (EnvOk.cons Fq36_ok (EnvOk.cons Fq90_ok (EnvOk.cons Fq88_ok (EnvOk.cons Fq35_ok (EnvOk.cons Fq38_ok (EnvOk.cons Fq37_ok (EnvOk.cons Fstrings_Repeat_ok (EnvOk.cons FBuilder_String_ok (EnvOk.cons FBuilder_copyCheck_ok (EnvOk.cons (eachBeginC_eq ▸ iter205_spec) (EnvOk.cons FBegun_ok (EnvOk.nil))))))))))))))))))))))))))))))))))))))))))))))))))))))))
def runs19 : List RunI := [
  ⟨23, false, []⟩,
  ⟨24, false, []⟩,
  ⟨27, false, [(0, [7, 9, 26]), (2, [7, 9, 44, 45])]⟩,
  ⟨29, false, [(0, [8, 28, 29, 30])]⟩,
  ⟨30, false, []⟩,
  ⟨33, false, []⟩,
  ⟨50, false, []⟩,
  ⟨52, false, []⟩,
  ⟨54, false, []⟩,
  ⟨56, false, []⟩,
  ⟨58, false, []⟩,
  ⟨60, false, []⟩,
  ⟨74, false, []⟩,
  ⟨75, false, []⟩,
  ⟨76, false, []⟩,
  ⟨93, false, []⟩,
  ⟨94, false, []⟩,
  ⟨95, false, [(0, [2, 3, 4, 24, 79])]⟩,
  ⟨97, false, []⟩,
  ⟨98, false, []⟩,
  ⟨99, false, [(0, [3, 4, 10, 16])]⟩,
  ⟨100, false, []⟩,
  ⟨101, false, []⟩,
  ⟨104, false, [(0, [1, 12, 23])]⟩,
  ⟨105, false, []⟩,
  ⟨107, false, []⟩,
  ⟨110, false, []⟩,
  ⟨111, false, [(0, [0, 27, 28, 29]), (2, [0, 6, 27, 28, 29, 34, 35, 36])]⟩,
  ⟨112, false, []⟩,
  ⟨113, false, []⟩,
  ⟨132, false, []⟩,
  ⟨133, false, [(0, [3, 11, 12, 13])]⟩,
  ⟨134, false, []⟩,
  ⟨135, false, []⟩,
  ⟨142, true, []⟩,
  ⟨143, false, []⟩,
  ⟨157, false, []⟩,
  ⟨158, false, []⟩,
  ⟨160, false, []⟩,
  ⟨162, false, []⟩,
  ⟨163, false, []⟩,
  ⟨166, false, []⟩,
  ⟨168, false, []⟩,
  ⟨170, false, []⟩,
  ⟨173, true, []⟩,
  ⟨179, false, []⟩,
  ⟨180, false, []⟩,
  ⟨190, false, []⟩,
  ⟨191, true, []⟩,
  ⟨192, true, []⟩,
  ⟨212, true, []⟩,
  ⟨213, true, []⟩,
  ⟨217, false, [(0, [0])]⟩,
  ⟨240, false, []⟩,
  ⟨259, false, [(0, [0, 1, 8, 12, 13])]⟩]
theorem runs19_ok : runs19.all (RunI.ok Tryz.prog) = true := by kernel_rfl
noncomputable def lo19 : Lo := loQ Tryz.prog Tryz.tab base19 runs19 40
theorem lo19_ok : LoOk Tryz.prog lo19 := loQ_ok mixed tabOk base19_ok runs19_ok 40
end Go.Proofs.R7

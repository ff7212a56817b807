/- What the functions that ClientDoesSaid reaches compute: part 2. -/
import Derived.Test.YtilcmignaebneaaOwnClientDoesSaid1
set_option linter.unusedVariables false
set_option linter.unusedSimpArgs false
namespace Go.Proofs.R8
open Go Go.AE
set_option maxRecDepth 100000
--@ law44_great
noncomputable def envq29 : Env := []
theorem envq29Ok : EnvOk Try.prog envq29 := EnvOk.nil
noncomputable def bq29 : Code := Try.f7.body.getD .skip
noncomputable def Lq29_n2 : Code := codeAt [1,0,1,0,0,1,0,0,0] bq29
noncomputable def annLq29_n2 : Ann := .none
theorem annLq29_n2_ok : AnnOk Try.prog 21 Lq29_n2 annLq29_n2 := (annOk_none _ _ _)
abbrev Iq29_n2 := (List (Int × Int × List UInt8 × Int × Int × Int × (Int × Int × Int × List UInt8) × List Int)) × (Int)
abbrev Yq29_n2 := (Bool)
def Sq29_n2 : Iq29_n2 → St := fun (t0,t3) => { env := [(0,.ro (.st (.pair (.int .i64) (.pair (.int .i64) (.pair .str (.pair (.int .i64) (.pair (.int .i64) (.pair (.int .i64) (.pair (.pair (.int .i64) (.pair (.int .i64) (.pair (.int .i64) .str))) (.list (.int .i64)))))))))) t0),(3,.int .i64 t3)],stk := [[]],H := [],blk := 28673 }
def decPq29_n2 (s : St) : Option {x : Iq29_n2 // s = Sq29_n2 x} := match s with
  | { env := [(0,.ro (.st (.pair (.int .i64) (.pair (.int .i64) (.pair .str (.pair (.int .i64) (.pair (.int .i64) (.pair (.int .i64) (.pair (.pair (.int .i64) (.pair (.int .i64) (.pair (.int .i64) .str))) (.list (.int .i64)))))))))) t0),(3,.int .i64 t3)],stk := [[]],H := [],blk := 28673 } => some ⟨(t0,t3),rfl⟩
  | _ => none
def decq29_n2 (s : St) : Option Iq29_n2 := pk (decPq29_n2 s)
theorem decq29_n2_ok (s : St) (x : Iq29_n2) (h : decq29_n2 s = some x) : s = Sq29_n2 x := pk_ok (o := decPq29_n2 s) h
def outq29_n2 : Iq29_n2 → (Ex → St → Ans) → Yq29_n2 → Ans := fun (t0,t3) K => fun t20_y => K (Ex.norm) { env := [(0,.ro (.st (.pair (.int .i64) (.pair (.int .i64) (.pair .str (.pair (.int .i64) (.pair (.int .i64) (.pair (.int .i64) (.pair (.pair (.int .i64) (.pair (.int .i64) (.pair (.int .i64) .str))) (.list (.int .i64)))))))))) t0),(3,.int .i64 t3),(20,.bool t20_y)],stk := [[]],H := [],blk := 28673 }
def nodeq29_n2 {β : Type} : Iq29_n2 → (Yq29_n2 → Option β) → Option β := fun (t0,t3) exit => (bif decide (t3 ≥ (90 : Int)) then (exit (true)) else (bindO (nth t0 t3) fun x => (exit (decide ((↑(List.length x.snd.snd.fst) : Int) > (1000 : Int))))))
def nodeDq29_n2 (i : Iq29_n2) : Option Yq29_n2 := nodeq29_n2 i some
theorem nodeq29_n2_nat (i : Iq29_n2) (k : Yq29_n2 → Ans) : nodeq29_n2 i k = bindO (nodeDq29_n2 i) k := by
  obtain ⟨t0,t3⟩ := i
  simp only [nodeDq29_n2,nodeq29_n2,bindO_cond,bindO_assoc,bindO_none,bindO_pure,bindO_elim,bindO_unP,bindO_empty]
theorem nodeq29_n2_ok (i : Iq29_n2) (K : Ex → St → Ans) : codeI Try.tab envq29 noHint (codeD Try.tab envq29 noHint 0 64) 70 21 annLq29_n2 Lq29_n2 (weakP 0 (exk [0,3,20] [2] []) K) (Sq29_n2 i) = nodeq29_n2 i (outq29_n2 i K) := by kernel_rfl
theorem GNq29_n2_ok : CSum Try.prog 21 Lq29_n2 (sumN decq29_n2 nodeDq29_n2 outq29_n2) := csum_node mixed tabOk envq29Ok 0 (exk [0,3,20] [2] []) annLq29_n2_ok decq29_n2_ok nodeq29_n2_ok nodeq29_n2_nat
noncomputable def Gq29_n2 : (Ex → St → Ans) → St → Ans := (sumN decq29_n2 nodeDq29_n2 outq29_n2)
theorem Gq29_n2_ok : CSum Try.prog 21 Lq29_n2 Gq29_n2 := GNq29_n2_ok
noncomputable def Lq29_n1 : Code := codeAt [1,0,1,0,0,1,0] bq29
noncomputable def annLq29_n1 : Ann := (.block (.seq (.cut 0 [0,3] Gq29_n2) .none))
theorem annLq29_n1_ok : AnnOk Try.prog 21 Lq29_n1 annLq29_n1 := ⟨Gq29_n2_ok,(annOk_none _ _ _)⟩
abbrev Iq29_n1 := (List (Int × Int × List UInt8 × Int × Int × Int × (Int × Int × Int × List UInt8) × List Int)) × (Int)
abbrev Yq29_n1 := (Unit) ⊕ (Unit)
def Sq29_n1 : Iq29_n1 → St := fun (t0,t3) => { env := [(0,.ro (.st (.pair (.int .i64) (.pair (.int .i64) (.pair .str (.pair (.int .i64) (.pair (.int .i64) (.pair (.int .i64) (.pair (.pair (.int .i64) (.pair (.int .i64) (.pair (.int .i64) .str))) (.list (.int .i64)))))))))) t0),(3,.int .i64 t3)],stk := [[]],H := [],blk := 28672 }
def decPq29_n1 (s : St) : Option {x : Iq29_n1 // s = Sq29_n1 x} := match s with
  | { env := [(0,.ro (.st (.pair (.int .i64) (.pair (.int .i64) (.pair .str (.pair (.int .i64) (.pair (.int .i64) (.pair (.int .i64) (.pair (.pair (.int .i64) (.pair (.int .i64) (.pair (.int .i64) .str))) (.list (.int .i64)))))))))) t0),(3,.int .i64 t3)],stk := [[]],H := [],blk := 28672 } => some ⟨(t0,t3),rfl⟩
  | _ => none
def decq29_n1 (s : St) : Option Iq29_n1 := pk (decPq29_n1 s)
theorem decq29_n1_ok (s : St) (x : Iq29_n1) (h : decq29_n1 s = some x) : s = Sq29_n1 x := pk_ok (o := decPq29_n1 s) h
def outq29_n1 : Iq29_n1 → (Ex → St → Ans) → Yq29_n1 → Ans := fun (t0,t3) K => (Sum.elim (fun _ => K (Ex.ret) { env := [(2,.bool (true))],stk := [[]],H := [],blk := 28673 }) (fun _ => K (Ex.norm) { env := [(0,.ro (.st (.pair (.int .i64) (.pair (.int .i64) (.pair .str (.pair (.int .i64) (.pair (.int .i64) (.pair (.int .i64) (.pair (.pair (.int .i64) (.pair (.int .i64) (.pair (.int .i64) .str))) (.list (.int .i64)))))))))) t0),(3,.int .i64 t3)],stk := [[]],H := [],blk := 28673 }))
def nodeq29_n1 {β : Type} : Iq29_n1 → (Yq29_n1 → Option β) → Option β := fun (t0,t3) exit => (bindO (nodeDq29_n2 (t0,t3)) fun t20 => (bif t20 then (exit (Sum.inl ())) else (exit (Sum.inr ()))))
def nodeDq29_n1 (i : Iq29_n1) : Option Yq29_n1 := nodeq29_n1 i some
theorem nodeq29_n1_nat (i : Iq29_n1) (k : Yq29_n1 → Ans) : nodeq29_n1 i k = bindO (nodeDq29_n1 i) k := by
  obtain ⟨t0,t3⟩ := i
  simp only [nodeDq29_n1,nodeq29_n1,bindO_cond,bindO_assoc,bindO_none,bindO_pure,bindO_elim,bindO_unP,bindO_empty]
theorem nodeq29_n1_ok (i : Iq29_n1) (K : Ex → St → Ans) : codeI Try.tab envq29 noHint (codeD Try.tab envq29 noHint 0 64) 70 21 annLq29_n1 Lq29_n1 (weakP 0 (exk [0,3] [2] []) K) (Sq29_n1 i) = nodeq29_n1 i (outq29_n1 i K) := by kernel_rfl
theorem GNq29_n1_ok : CSum Try.prog 21 Lq29_n1 (sumN decq29_n1 nodeDq29_n1 outq29_n1) := csum_node mixed tabOk envq29Ok 0 (exk [0,3] [2] []) annLq29_n1_ok decq29_n1_ok nodeq29_n1_ok nodeq29_n1_nat
noncomputable def Gq29_n1 : (Ex → St → Ans) → St → Ans := (sumN decq29_n1 nodeDq29_n1 outq29_n1)
theorem Gq29_n1_ok : CSum Try.prog 21 Lq29_n1 Gq29_n1 := GNq29_n1_ok
noncomputable def Lq29_n0 : Code := codeAt [1,0,1,0,0] bq29
noncomputable def annLq29_n0 : Ann := .at 0 [0,3] (.loop (.seq .none (.seq (.cut 0 [0,3] Gq29_n1) .none)))
theorem annLq29_n0_ok : AnnOk Try.prog 21 (.loop Lq29_n0) annLq29_n0 := annOk_at ⟨(annOk_none _ _ _),⟨Gq29_n1_ok,(annOk_none _ _ _)⟩⟩
abbrev Iq29_n0 := (List (Int × Int × List UInt8 × Int × Int × Int × (Int × Int × Int × List UInt8) × List Int))
abbrev Yq29_n0 := (Unit) ⊕ (Unit)
abbrev Vq29_n0 := (Int)
def Sq29_n0 : Iq29_n0 → Vq29_n0 → St := fun t0 t3 => { env := [(0,.ro (.st (.pair (.int .i64) (.pair (.int .i64) (.pair .str (.pair (.int .i64) (.pair (.int .i64) (.pair (.int .i64) (.pair (.pair (.int .i64) (.pair (.int .i64) (.pair (.int .i64) .str))) (.list (.int .i64)))))))))) t0),(3,.int .i64 t3)],stk := [[]],H := [],blk := 28672 }
def decPq29_n0 (s : St) : Option {x : Iq29_n0 × Vq29_n0 // s = Sq29_n0 x.1 x.2} := match s with
  | { env := [(0,.ro (.st (.pair (.int .i64) (.pair (.int .i64) (.pair .str (.pair (.int .i64) (.pair (.int .i64) (.pair (.int .i64) (.pair (.pair (.int .i64) (.pair (.int .i64) (.pair (.int .i64) .str))) (.list (.int .i64)))))))))) t0),(3,.int .i64 t3)],stk := [[]],H := [],blk := 28672 } => some ⟨(t0,t3),rfl⟩
  | _ => none
def decq29_n0 (s : St) : Option (Iq29_n0 × Vq29_n0) := pk (decPq29_n0 s)
theorem decq29_n0_ok (s : St) (x : Iq29_n0 × Vq29_n0) (h : decq29_n0 s = some x) : s = Sq29_n0 x.1 x.2 := pk_ok (o := decPq29_n0 s) h
def outq29_n0 : Iq29_n0 → (Ex → St → Ans) → Yq29_n0 → Ans := fun t0 K => (Sum.elim (fun _ => K (Ex.ret) { env := [(2,.bool (true))],stk := [[]],H := [],blk := 28673 }) (fun _ => K (Ex.exit 0) { env := [],stk := [[]],H := [],blk := 28672 }))
def stepq29_n0 {β : Type} : Iq29_n0 → Vq29_n0 → (Vq29_n0 → Option β) → (Yq29_n0 → Option β) → Option β := fun t0 t3 next exit => (bif decide (t3 < (↑(List.length t0) : Int)) then (bindO (nodeDq29_n1 (t0,t3)) (Sum.elim (fun _ => (exit (Sum.inl ()))) (fun _ => (next (IntKind.wrap .i64 (t3 + (1 : Int))))))) else (exit (Sum.inr ())))
def stepDq29_n0 (i : Iq29_n0) (v : Vq29_n0) : Option (Vq29_n0 ⊕ Yq29_n0) := stepq29_n0 i v (fun v => some (.inl v)) (fun y => some (.inr y))
theorem stepq29_n0_nat (i : Iq29_n0) (v : Vq29_n0) (next : Vq29_n0 → Ans) (exit : Yq29_n0 → Ans) : stepq29_n0 i v next exit = bindO (stepDq29_n0 i v) (Sum.elim next exit) := by
  obtain z := i
  obtain z := v
  simp only [stepDq29_n0,stepq29_n0,bindO_cond,bindO_assoc,bindO_none,bindO_pure,bindO_elim,bindO_unP,bindO_empty,Sum.elim_inl,Sum.elim_inr]
theorem stepq29_n0_ok (n : Nat) (i : Iq29_n0) (v : Vq29_n0) (K : Ex → St → Ans) : codeI Try.tab envq29 noHint (codeD Try.tab envq29 noHint 0 64) (n+1) 21 annLq29_n0 (.loop Lq29_n0) (weakP 0 (exk [] [2] [(0,[])]) K) (Sq29_n0 i v) = stepq29_n0 i v (fun v' => codeI Try.tab envq29 noHint (codeD Try.tab envq29 noHint 0 64) n 21 annLq29_n0 (.loop Lq29_n0) (weakP 0 (exk [] [2] [(0,[])]) K) (Sq29_n0 i v')) (fun y => outq29_n0 i K y) := by kernel_rfl
theorem GNq29_n0_ok : CSum Try.prog 21 (.loop Lq29_n0) (sumL decq29_n0 stepDq29_n0 outq29_n0) := csum_loop mixed tabOk envq29Ok 0 (exk [] [2] [(0,[])]) annLq29_n0_ok decq29_n0_ok stepq29_n0_ok stepq29_n0_nat
noncomputable def Gq29_n0 : (Ex → St → Ans) → St → Ans := (sumL decq29_n0 stepDq29_n0 outq29_n0)
theorem Gq29_n0_ok : CSum Try.prog 21 (.loop Lq29_n0) Gq29_n0 := GNq29_n0_ok
noncomputable def annq29 : Ann := (.seq .none (.seq (.seq .none (.block (.cut 0 [0,3] Gq29_n0))) .none))
theorem annq29_ok : AnnOk Try.prog 21 bq29 annq29 := ⟨(annOk_none _ _ _),⟨⟨(annOk_none _ _ _),Gq29_n0_ok⟩,(annOk_none _ _ _)⟩⟩
abbrev Aq29 := (List (Int × Int × List UInt8 × Int × Int × Int × (Int × Int × Int × List UInt8) × List Int))
abbrev Yq29 := (Bool)
def fnq29 {β : Type} : Aq29 → (Yq29 → Option β) → Option β := fun a0 exit => (bindO (loopD (stepDq29_n0 (a0)) FUEL ((0 : Int))) (Sum.elim (fun _ => (exit (true))) (fun _ => (exit (false)))))
def fnDq29 (a : Aq29) : Option Yq29 := fnq29 a some
theorem fnq29_nat (a : Aq29) (k : Yq29 → Ans) : fnq29 a k = bindO (fnDq29 a) k := by
  obtain z := a
  simp only [fnDq29,fnq29,bindO_cond,bindO_assoc,bindO_none,bindO_pure,bindO_elim,bindO_unP,bindO_empty]
def argsq29 : Aq29 → List AV := fun a0 => [.ro (.st (.pair (.int .i64) (.pair (.int .i64) (.pair .str (.pair (.int .i64) (.pair (.int .i64) (.pair (.int .i64) (.pair (.pair (.int .i64) (.pair (.int .i64) (.pair (.int .i64) .str))) (.list (.int .i64)))))))))) a0]
def decPAq29 (l : List AV) : Option {a : Aq29 // l = argsq29 a} := match l with
  | [.ro (.st (.pair (.int .i64) (.pair (.int .i64) (.pair .str (.pair (.int .i64) (.pair (.int .i64) (.pair (.int .i64) (.pair (.pair (.int .i64) (.pair (.int .i64) (.pair (.int .i64) .str))) (.list (.int .i64)))))))))) a0] => some ⟨(a0),rfl⟩
  | _ => none
def decAq29 (l : List AV) : Option Aq29 := pk (decPAq29 l)
theorem decAq29_ok (l : List AV) (a : Aq29) (h : decAq29 l = some a) : l = argsq29 a := pk_ok (o := decPAq29 l) h
def rendq29 : Aq29 → Yq29 → AV := fun a0 => fun r_y => .bool r_y
theorem rendq29_ok : ∀ (a : Aq29) (y : Yq29),(rendq29 a y).closed1 = true := by
  rintro z y <;> first | rfl | exact Empty.elim y
theorem fnq29_ok (a : Aq29) : fnE Try.tab envq29 noHint 0 70 7 Try.f7.ntmps Try.f7.results.toList annq29 bq29 (argsq29 a) [] (fun v _ => some (v,[])) = fnq29 a (fun y => some (rendq29 a y,[])) := by kernel_rfl
def vFq29 (a : Aq29) (K : AV → Ans) : Ans := bindO (fnDq29 a) fun y => K (rendq29 a y)
def Fq29 : List AV → (AV → Ans) → Ans := fun l K => bindO (decAq29 l) fun a => vFq29 a K
theorem Fq29_ok : PureOk Try.prog 7 Fq29 := pure_mkD (hint := noHint) (d := 0) (n := 70) mixed tabOk envq29Ok Try.func7 (bodySome (by kernel_rfl)) (by decide +kernel) annq29_ok decAq29_ok fnq29_ok fnq29_nat rendq29_ok
--@ client_New_2
noncomputable def envq17 : Env := []
theorem envq17Ok : EnvOk Try.prog envq17 := EnvOk.nil
noncomputable def bq17 : Code := Try.f8.body.getD .skip
noncomputable def annq17 : Ann := .none
theorem annq17_ok : AnnOk Try.prog 10 bq17 annq17 := (annOk_none _ _ _)
abbrev Aq17 := (List Int) × (List Int) × (Int) × (Int) × (Int) × (Int) × (List (Int × Int)) × (List (Int × List UInt8)) × (List Int) × (List Int) × (List (Int × Int)) × (List (Int × List UInt8))
abbrev Yq17 := Unit
def fnq17 {β : Type} : Aq17 → (Yq17 → Option β) → Option β := fun (o0_0,o0_1,o0_4,o0_5,o1_4,o1_5,o2,o3,o4,o5,o6,o7) exit => (exit ())
def fnDq17 (a : Aq17) : Option Yq17 := fnq17 a some
theorem fnq17_nat (a : Aq17) (k : Yq17 → Ans) : fnq17 a k = bindO (fnDq17 a) k := by
  obtain ⟨o0_0,o0_1,o0_4,o0_5,o1_4,o1_5,o2,o3,o4,o5,o6,o7⟩ := a
  simp only [fnDq17,fnq17,bindO_cond,bindO_assoc,bindO_none,bindO_pure,bindO_elim,bindO_unP,bindO_empty]
def argsq17 : Aq17 → List AV × List AE.Obj := fun (o0_0,o0_1,o0_4,o0_5,o1_4,o1_5,o2,o3,o4,o5,o6,o7) => ([.ifc 27 (.ptr 0 0),.ifc 27 (.ptr 1 0)],[.cells [.ro (.int .i64) o0_0,.ro (.int .i64) o0_1,.own 2,.own 3,.int .i64 o0_4,.int .i64 o0_5],.cells [.own 4,.own 5,.own 6,.own 7,.int .i64 o1_4,.int .i64 o1_5],.arr (.st (.pair (.int .i64) (.int .i64))) o2,.arr (.st (.pair (.int .i64) .str)) o3,.arr (.int .i64) o4,.arr (.int .i64) o5,.arr (.st (.pair (.int .i64) (.int .i64))) o6,.arr (.st (.pair (.int .i64) .str)) o7])
def decPAq17 (l : List AV) (H : List AE.Obj) : Option {a : Aq17 // (l,H) = argsq17 a} := match l,H with
  | [.ifc 27 (.ptr 0 0),.ifc 27 (.ptr 1 0)],[.cells [.ro (.int .i64) o0_0,.ro (.int .i64) o0_1,.own 2,.own 3,.int .i64 o0_4,.int .i64 o0_5],.cells [.own 4,.own 5,.own 6,.own 7,.int .i64 o1_4,.int .i64 o1_5],.arr (.st (.pair (.int .i64) (.int .i64))) o2,.arr (.st (.pair (.int .i64) .str)) o3,.arr (.int .i64) o4,.arr (.int .i64) o5,.arr (.st (.pair (.int .i64) (.int .i64))) o6,.arr (.st (.pair (.int .i64) .str)) o7] => some ⟨(o0_0,o0_1,o0_4,o0_5,o1_4,o1_5,o2,o3,o4,o5,o6,o7),rfl⟩
  | _,_ => none
def decAq17 (l : List AV) (H : List AE.Obj) : Option Aq17 := pk (decPAq17 l H)
theorem decAq17_ok (l : List AV) (H : List AE.Obj) (a : Aq17) (h : decAq17 l H = some a) : (l,H) = argsq17 a := pk_ok (o := decPAq17 l H) h
def outq17 : Aq17 → (AV → List AE.Obj → Ans) → Yq17 → Ans := fun (o0_0,o0_1,o0_4,o0_5,o1_4,o1_5,o2,o3,o4,o5,o6,o7) K => fun _ => K (.ptr 8 0) [.cells [.ro (.int .i64) o0_0,.ro (.int .i64) o0_1,.own 2,.own 3,.int .i64 o0_4,.int .i64 o0_5],.cells [.own 4,.own 5,.own 6,.own 7,.int .i64 o1_4,.int .i64 o1_5],.arr (.st (.pair (.int .i64) (.int .i64))) o2,.arr (.st (.pair (.int .i64) .str)) o3,.arr (.int .i64) o4,.arr (.int .i64) o5,.arr (.st (.pair (.int .i64) (.int .i64))) o6,.arr (.st (.pair (.int .i64) .str)) o7,.cells [.ifc 27 (.ptr 0 0),.ifc 27 (.ptr 1 0),.int .i64 (0),.own 9,.own 10],.arr (.st (.pair (.int .i64) .str)) ([]),.arr (.st (.pair (.int .i64) (.int .i64))) ([])]
theorem fnq17_ok (a : Aq17) (K : AV → List AE.Obj → Ans) : fnE Try.tab envq17 noHint 0 70 8 Try.f8.ntmps Try.f8.results.toList annq17 bq17 (argsq17 a).1 (argsq17 a).2 K = fnq17 a (outq17 a K) := by kernel_rfl
def vFq17 (a : Aq17) (K : AV → List AE.Obj → Ans) : Ans := bindO (fnDq17 a) fun y => outq17 a K y
def Fq17 : List AV → List AE.Obj → (AV → List AE.Obj → Ans) → Ans := fun l H K => bindO (decAq17 l H) fun a => vFq17 a K
theorem Fq17_ok : FuncOk Try.prog 8 Fq17 := func_mkD (hint := noHint) (d := 0) (n := 70) mixed tabOk envq17Ok Try.func8 (bodySome (by kernel_rfl)) (by decide +kernel) annq17_ok decAq17_ok fnq17_ok fnq17_nat
--@ law44_Tape_next_2
noncomputable def envq28 : Env := []
theorem envq28Ok : EnvOk Try.prog envq28 := EnvOk.nil
noncomputable def bq28 : Code := Try.f15.body.getD .skip
noncomputable def Lq28_n1 : Code := codeAt [1,1,1,1,1,1,1,0,1] bq28
noncomputable def annLq28_n1 : Ann := .none
theorem annLq28_n1_ok : AnnOk Try.prog 73 Lq28_n1 annLq28_n1 := (annOk_none _ _ _)
abbrev Iq28_n1 := (Bool) × (List Int) × (List Int) × (Int) × (Int) × (List (Int × Int)) × (List (Int × List UInt8)) × (Int)
abbrev Yq28_n1 := (Int)
def Sq28_n1 : Iq28_n1 → St := fun (t59,o0_0,o0_1,o0_4,o0_5,o1,o2,o4_0) => { env := [(0,.ptr 0 0),(2,.ptr 3 0),(5,.ptr 4 0),(59,.bool t59)],stk := [[(0,.ptr 0 0)]],H := [.cells [.ro (.int .i64) o0_0,.ro (.int .i64) o0_1,.own 1,.own 2,.int .i64 o0_4,.int .i64 o0_5],.arr (.st (.pair (.int .i64) (.int .i64))) o1,.arr (.st (.pair (.int .i64) .str)) o2,.cells [.int .i64 (0),.int .i64 (0)],.cells [.int .i64 o4_0,.int .i64 (0)]],blk := 61440 }
def decPq28_n1 (s : St) : Option {x : Iq28_n1 // s = Sq28_n1 x} := match s with
  | { env := [(0,.ptr 0 0),(2,.ptr 3 0),(5,.ptr 4 0),(59,.bool t59)],stk := [[(0,.ptr 0 0)]],H := [.cells [.ro (.int .i64) o0_0,.ro (.int .i64) o0_1,.own 1,.own 2,.int .i64 o0_4,.int .i64 o0_5],.arr (.st (.pair (.int .i64) (.int .i64))) o1,.arr (.st (.pair (.int .i64) .str)) o2,.cells [.int .i64 r7,.int .i64 r8],.cells [.int .i64 o4_0,.int .i64 r10]],blk := 61440 } => if h7 : r7 = 0 then if h8 : r8 = 0 then if h10 : r10 = 0 then some ⟨(t59,o0_0,o0_1,o0_4,o0_5,o1,o2,o4_0),by subst h7 h8 h10; rfl⟩ else none else none else none
  | _ => none
def decq28_n1 (s : St) : Option Iq28_n1 := pk (decPq28_n1 s)
theorem decq28_n1_ok (s : St) (x : Iq28_n1) (h : decq28_n1 s = some x) : s = Sq28_n1 x := pk_ok (o := decPq28_n1 s) h
def outq28_n1 : Iq28_n1 → (Ex → St → Ans) → Yq28_n1 → Ans := fun (t59,o0_0,o0_1,o0_4,o0_5,o1,o2,o4_0) K => fun o4_1_y => K (Ex.norm) { env := [(2,.ptr 3 0),(5,.ptr 4 0)],stk := [[(0,.ptr 0 0)]],H := [.cells [.ro (.int .i64) o0_0,.ro (.int .i64) o0_1,.own 1,.own 2,.int .i64 o0_4,.int .i64 o0_5],.arr (.st (.pair (.int .i64) (.int .i64))) o1,.arr (.st (.pair (.int .i64) .str)) o2,.cells [.int .i64 (0),.int .i64 (0)],.cells [.int .i64 o4_0,.int .i64 o4_1_y]],blk := 61440 }
def nodeq28_n1 {β : Type} : Iq28_n1 → (Yq28_n1 → Option β) → Option β := fun (t59,o0_0,o0_1,o0_4,o0_5,o1,o2,o4_0) exit => (bif t59 then (bindO (nth o0_1 (IntKind.wrap .i64 (o0_5 - (1 : Int)))) fun x => (exit (x))) else (exit ((0 : Int))))
def nodeDq28_n1 (i : Iq28_n1) : Option Yq28_n1 := nodeq28_n1 i some
theorem nodeq28_n1_nat (i : Iq28_n1) (k : Yq28_n1 → Ans) : nodeq28_n1 i k = bindO (nodeDq28_n1 i) k := by
  obtain ⟨t59,o0_0,o0_1,o0_4,o0_5,o1,o2,o4_0⟩ := i
  simp only [nodeDq28_n1,nodeq28_n1,bindO_cond,bindO_assoc,bindO_none,bindO_pure,bindO_elim,bindO_unP,bindO_empty]
theorem nodeq28_n1_ok (i : Iq28_n1) (K : Ex → St → Ans) : codeI Try.tab envq28 noHint (codeD Try.tab envq28 noHint 0 64) 70 73 annLq28_n1 Lq28_n1 (weakP 3 (exk [2,5] [2,3] []) K) (Sq28_n1 i) = nodeq28_n1 i (outq28_n1 i K) := by kernel_rfl
theorem GNq28_n1_ok : CSum Try.prog 73 Lq28_n1 (sumN decq28_n1 nodeDq28_n1 outq28_n1) := csum_node mixed tabOk envq28Ok 3 (exk [2,5] [2,3] []) annLq28_n1_ok decq28_n1_ok nodeq28_n1_ok nodeq28_n1_nat
noncomputable def Gq28_n1 : (Ex → St → Ans) → St → Ans := (sumN decq28_n1 nodeDq28_n1 outq28_n1)
theorem Gq28_n1_ok : CSum Try.prog 73 Lq28_n1 Gq28_n1 := GNq28_n1_ok
noncomputable def Lq28_n0 : Code := codeAt [1,1,1,0,1] bq28
noncomputable def annLq28_n0 : Ann := .none
theorem annLq28_n0_ok : AnnOk Try.prog 73 Lq28_n0 annLq28_n0 := (annOk_none _ _ _)
abbrev Iq28_n0 := (Bool) × (List Int) × (List Int) × (Int) × (Int) × (List (Int × Int)) × (List (Int × List UInt8))
abbrev Yq28_n0 := (Int)
def Sq28_n0 : Iq28_n0 → St := fun (t22,o0_0,o0_1,o0_4,o0_5,o1,o2) => { env := [(0,.ptr 0 0),(2,.ptr 3 0),(4,.int .i64 (0)),(22,.bool t22)],stk := [[(0,.ptr 0 0)]],H := [.cells [.ro (.int .i64) o0_0,.ro (.int .i64) o0_1,.own 1,.own 2,.int .i64 o0_4,.int .i64 o0_5],.arr (.st (.pair (.int .i64) (.int .i64))) o1,.arr (.st (.pair (.int .i64) .str)) o2,.cells [.int .i64 (0),.int .i64 (0)]],blk := 61440 }
def decPq28_n0 (s : St) : Option {x : Iq28_n0 // s = Sq28_n0 x} := match s with
  | { env := [(0,.ptr 0 0),(2,.ptr 3 0),(4,.int .i64 r0),(22,.bool t22)],stk := [[(0,.ptr 0 0)]],H := [.cells [.ro (.int .i64) o0_0,.ro (.int .i64) o0_1,.own 1,.own 2,.int .i64 o0_4,.int .i64 o0_5],.arr (.st (.pair (.int .i64) (.int .i64))) o1,.arr (.st (.pair (.int .i64) .str)) o2,.cells [.int .i64 r8,.int .i64 r9]],blk := 61440 } => if h0 : r0 = 0 then if h8 : r8 = 0 then if h9 : r9 = 0 then some ⟨(t22,o0_0,o0_1,o0_4,o0_5,o1,o2),by subst h0 h8 h9; rfl⟩ else none else none else none
  | _ => none
def decq28_n0 (s : St) : Option Iq28_n0 := pk (decPq28_n0 s)
theorem decq28_n0_ok (s : St) (x : Iq28_n0) (h : decq28_n0 s = some x) : s = Sq28_n0 x := pk_ok (o := decPq28_n0 s) h
def outq28_n0 : Iq28_n0 → (Ex → St → Ans) → Yq28_n0 → Ans := fun (t22,o0_0,o0_1,o0_4,o0_5,o1,o2) K => fun t4_y => K (Ex.norm) { env := [(0,.ptr 0 0),(2,.ptr 3 0),(4,.int .i64 t4_y)],stk := [[(0,.ptr 0 0)]],H := [.cells [.ro (.int .i64) o0_0,.ro (.int .i64) o0_1,.own 1,.own 2,.int .i64 o0_4,.int .i64 o0_5],.arr (.st (.pair (.int .i64) (.int .i64))) o1,.arr (.st (.pair (.int .i64) .str)) o2,.cells [.int .i64 (0),.int .i64 (0)]],blk := 61440 }
def nodeq28_n0 {β : Type} : Iq28_n0 → (Yq28_n0 → Option β) → Option β := fun (t22,o0_0,o0_1,o0_4,o0_5,o1,o2) exit => (bif t22 then (bindO (nth o0_0 (IntKind.wrap .i64 (o0_4 - (1 : Int)))) fun x => (exit (x))) else (exit ((0 : Int))))
def nodeDq28_n0 (i : Iq28_n0) : Option Yq28_n0 := nodeq28_n0 i some
theorem nodeq28_n0_nat (i : Iq28_n0) (k : Yq28_n0 → Ans) : nodeq28_n0 i k = bindO (nodeDq28_n0 i) k := by
  obtain ⟨t22,o0_0,o0_1,o0_4,o0_5,o1,o2⟩ := i
  simp only [nodeDq28_n0,nodeq28_n0,bindO_cond,bindO_assoc,bindO_none,bindO_pure,bindO_elim,bindO_unP,bindO_empty]
theorem nodeq28_n0_ok (i : Iq28_n0) (K : Ex → St → Ans) : codeI Try.tab envq28 noHint (codeD Try.tab envq28 noHint 0 64) 70 73 annLq28_n0 Lq28_n0 (weakP 3 (exk [0,2,4] [2,3] []) K) (Sq28_n0 i) = nodeq28_n0 i (outq28_n0 i K) := by kernel_rfl
theorem GNq28_n0_ok : CSum Try.prog 73 Lq28_n0 (sumN decq28_n0 nodeDq28_n0 outq28_n0) := csum_node mixed tabOk envq28Ok 3 (exk [0,2,4] [2,3] []) annLq28_n0_ok decq28_n0_ok nodeq28_n0_ok nodeq28_n0_nat
noncomputable def Gq28_n0 : (Ex → St → Ans) → St → Ans := (sumN decq28_n0 nodeDq28_n0 outq28_n0)
theorem Gq28_n0_ok : CSum Try.prog 73 Lq28_n0 Gq28_n0 := GNq28_n0_ok
noncomputable def annq28 : Ann := (.seq .none (.seq .none (.seq .none (.seq (.seq .none (.cut 3 [0,2,4,22] Gq28_n0)) (.seq .none (.seq .none (.seq .none (.seq (.seq .none (.cut 3 [0,2,5,59] Gq28_n1)) .none))))))))
theorem annq28_ok : AnnOk Try.prog 73 bq28 annq28 := ⟨(annOk_none _ _ _),⟨(annOk_none _ _ _),⟨(annOk_none _ _ _),⟨⟨(annOk_none _ _ _),Gq28_n0_ok⟩,⟨(annOk_none _ _ _),⟨(annOk_none _ _ _),⟨(annOk_none _ _ _),⟨⟨(annOk_none _ _ _),Gq28_n1_ok⟩,(annOk_none _ _ _)⟩⟩⟩⟩⟩⟩⟩⟩
abbrev Aq28 := (List Int) × (List Int) × (Int) × (Int) × (List (Int × Int)) × (List (Int × List UInt8))
abbrev Yq28 := (Int) × (Int) × (Int) × (Int) × (Int)
def fnq28 {β : Type} : Aq28 → (Yq28 → Option β) → Option β := fun (o0_0,o0_1,o0_4,o0_5,o1,o2) exit => (bindO (nodeDq28_n0 (decide (IntKind.wrap .i64 (o0_4 + (1 : Int)) ≤ (↑(List.length o0_0) : Int)),o0_0,o0_1,IntKind.wrap .i64 (o0_4 + (1 : Int)),o0_5,o1,o2)) fun t4 => (bif t4 != (0 : Int) then (exit ((0 : Int),(0 : Int),t4,IntKind.wrap .i64 (o0_4 + (1 : Int)),o0_5)) else (bindO (nodeDq28_n1 (decide (IntKind.wrap .i64 (o0_5 + (1 : Int)) ≤ (↑(List.length o0_1) : Int)),o0_0,o0_1,IntKind.wrap .i64 (o0_4 + (1 : Int)),IntKind.wrap .i64 (o0_5 + (1 : Int)),o1,o2,IntKind.wrap .i64 (o0_5 + (1 : Int)))) fun o4_1 => (exit (IntKind.wrap .i64 (o0_5 + (1 : Int)),o4_1,(0 : Int),IntKind.wrap .i64 (o0_4 + (1 : Int)),IntKind.wrap .i64 (o0_5 + (1 : Int)))))))
def fnDq28 (a : Aq28) : Option Yq28 := fnq28 a some
theorem fnq28_nat (a : Aq28) (k : Yq28 → Ans) : fnq28 a k = bindO (fnDq28 a) k := by
  obtain ⟨o0_0,o0_1,o0_4,o0_5,o1,o2⟩ := a
  simp only [fnDq28,fnq28,bindO_cond,bindO_assoc,bindO_none,bindO_pure,bindO_elim,bindO_unP,bindO_empty]
def argsq28 : Aq28 → List AV × List AE.Obj := fun (o0_0,o0_1,o0_4,o0_5,o1,o2) => ([.ptr 0 0],[.cells [.ro (.int .i64) o0_0,.ro (.int .i64) o0_1,.own 1,.own 2,.int .i64 o0_4,.int .i64 o0_5],.arr (.st (.pair (.int .i64) (.int .i64))) o1,.arr (.st (.pair (.int .i64) .str)) o2])
def decPAq28 (l : List AV) (H : List AE.Obj) : Option {a : Aq28 // (l,H) = argsq28 a} := match l,H with
  | [.ptr 0 0],[.cells [.ro (.int .i64) o0_0,.ro (.int .i64) o0_1,.own 1,.own 2,.int .i64 o0_4,.int .i64 o0_5],.arr (.st (.pair (.int .i64) (.int .i64))) o1,.arr (.st (.pair (.int .i64) .str)) o2] => some ⟨(o0_0,o0_1,o0_4,o0_5,o1,o2),rfl⟩
  | _,_ => none
def decAq28 (l : List AV) (H : List AE.Obj) : Option Aq28 := pk (decPAq28 l H)
theorem decAq28_ok (l : List AV) (H : List AE.Obj) (a : Aq28) (h : decAq28 l H = some a) : (l,H) = argsq28 a := pk_ok (o := decPAq28 l H) h
def outq28 : Aq28 → (AV → List AE.Obj → Ans) → Yq28 → Ans := fun (o0_0,o0_1,o0_4,o0_5,o1,o2) K => unP fun r_0_0_y => unP fun r_0_1_y => unP fun r_1_y => unP fun o0_4_y o0_5_y => K (.tup [.agg [.int .i64 r_0_0_y,.int .i64 r_0_1_y],.int .i64 r_1_y]) [.cells [.ro (.int .i64) o0_0,.ro (.int .i64) o0_1,.own 1,.own 2,.int .i64 o0_4_y,.int .i64 o0_5_y],.arr (.st (.pair (.int .i64) (.int .i64))) o1,.arr (.st (.pair (.int .i64) .str)) o2]
theorem fnq28_ok (a : Aq28) (K : AV → List AE.Obj → Ans) : fnE Try.tab envq28 noHint 0 70 15 Try.f15.ntmps Try.f15.results.toList annq28 bq28 (argsq28 a).1 (argsq28 a).2 K = fnq28 a (outq28 a K) := by kernel_rfl
def vFq28 (a : Aq28) (K : AV → List AE.Obj → Ans) : Ans := bindO (fnDq28 a) fun y => outq28 a K y
def Fq28 : List AV → List AE.Obj → (AV → List AE.Obj → Ans) → Ans := fun l H K => bindO (decAq28 l H) fun a => vFq28 a K
theorem Fq28_ok : FuncOk Try.prog 15 Fq28 := func_mkD (hint := noHint) (d := 0) (n := 70) mixed tabOk envq28Ok Try.func15 (bodySome (by kernel_rfl)) (by decide +kernel) annq28_ok decAq28_ok fnq28_ok fnq28_nat
--@ ref44_Client_Wrote
noncomputable def envq33 : Env := []
theorem envq33Ok : EnvOk Try.prog envq33 := EnvOk.nil
noncomputable def bq33 : Code := Try.f16.body.getD .skip
noncomputable def annq33 : Ann := .none
theorem annq33_ok : AnnOk Try.prog 20 bq33 annq33 := (annOk_none _ _ _)
abbrev Aq33 := (Int) × (List UInt8) × (Nat) × (Nat) × (List (Int × List UInt8)) × (List (Int × Int))
abbrev Yq33 := (List (Int × List UInt8))
def fnq33 {β : Type} : Aq33 → (Yq33 → Option β) → Option β := fun (a1,a2,o0_0,o0_0_2,o1,o2) exit => (bindO (bif Nat.ble (o0_0 + o0_0_2) (List.length o1) then some (List.take o0_0_2 (List.drop o0_0 o1)) else none) fun x => (bif Nat.ble (((0 : Nat) + List.length x) * (24 : Nat)) (140737488355328 : Nat) then (bif Nat.ble ((List.length x + List.length [(a1,a2)]) * (24 : Nat)) (140737488355328 : Nat) then (exit (x ++ [(a1,a2)])) else none) else none))
def fnDq33 (a : Aq33) : Option Yq33 := fnq33 a some
theorem fnq33_nat (a : Aq33) (k : Yq33 → Ans) : fnq33 a k = bindO (fnDq33 a) k := by
  obtain ⟨a1,a2,o0_0,o0_0_2,o1,o2⟩ := a
  simp only [fnDq33,fnq33,bindO_cond,bindO_assoc,bindO_none,bindO_pure,bindO_elim,bindO_unP,bindO_empty]
def argsq33 : Aq33 → List AV × List AE.Obj := fun (a1,a2,o0_0,o0_0_2,o1,o2) => ([.ptr 0 0,.int .i64 a1,.str a2],[.cells [.sub 1 o0_0 o0_0_2 2,.own 2],.arr (.st (.pair (.int .i64) .str)) o1,.arr (.st (.pair (.int .i64) (.int .i64))) o2])
def decPAq33 (l : List AV) (H : List AE.Obj) : Option {a : Aq33 // (l,H) = argsq33 a} := match l,H with
  | [.ptr 0 0,.int .i64 a1,.str a2],[.cells [.sub 1 o0_0 o0_0_2 2,.own 2],.arr (.st (.pair (.int .i64) .str)) o1,.arr (.st (.pair (.int .i64) (.int .i64))) o2] => some ⟨(a1,a2,o0_0,o0_0_2,o1,o2),rfl⟩
  | _,_ => none
def decAq33 (l : List AV) (H : List AE.Obj) : Option Aq33 := pk (decPAq33 l H)
theorem decAq33_ok (l : List AV) (H : List AE.Obj) (a : Aq33) (h : decAq33 l H = some a) : (l,H) = argsq33 a := pk_ok (o := decPAq33 l H) h
def outq33 : Aq33 → (AV → List AE.Obj → Ans) → Yq33 → Ans := fun (a1,a2,o0_0,o0_0_2,o1,o2) K => fun o3_y => K (.tup []) [.cells [.own 3,.own 2],.arr (.st (.pair (.int .i64) .str)) o1,.arr (.st (.pair (.int .i64) (.int .i64))) o2,.arr (.st (.pair (.int .i64) .str)) o3_y]
theorem fnq33_ok (a : Aq33) (K : AV → List AE.Obj → Ans) : fnE Try.tab envq33 noHint 0 70 16 Try.f16.ntmps Try.f16.results.toList annq33 bq33 (argsq33 a).1 (argsq33 a).2 K = fnq33 a (outq33 a K) := by kernel_rfl
def vFq33 (a : Aq33) (K : AV → List AE.Obj → Ans) : Ans := bindO (fnDq33 a) fun y => outq33 a K y
def Fq33 : List AV → List AE.Obj → (AV → List AE.Obj → Ans) → Ans := fun l H K => bindO (decAq33 l H) fun a => vFq33 a K
theorem Fq33_ok : FuncOk Try.prog 16 Fq33 := func_mkD (hint := noHint) (d := 0) (n := 70) mixed tabOk envq33Ok Try.func16 (bodySome (by kernel_rfl)) (by decide +kernel) annq33_ok decAq33_ok fnq33_ok fnq33_nat
--@ client_Client_server_2
noncomputable def envq15 : Env := []
theorem envq15Ok : EnvOk Try.prog envq15 := EnvOk.nil
noncomputable def bq15 : Code := Try.f21.body.getD .skip
noncomputable def annq15 : Ann := .none
theorem annq15_ok : AnnOk Try.prog 14 bq15 annq15 := (annOk_none _ _ _)
abbrev Aq15 := (Int) × (List Int) × (List Int) × (Int) × (Int) × (Int) × (Int) × (List (Int × List UInt8)) × (List (Int × Int)) × (List (Int × Int)) × (List (Int × List UInt8)) × (List Int) × (List Int) × (List (Int × Int)) × (List (Int × List UInt8))
abbrev Yq15 := (Unit) ⊕ (Unit)
def fnq15 {β : Type} : Aq15 → (Yq15 → Option β) → Option β := fun (o0_2,o1_0,o1_1,o1_4,o1_5,o2_4,o2_5,o3,o4,o5,o6,o7,o8,o9,o10) exit => (bif o0_2 == (0 : Int) then (exit (Sum.inl ())) else (bif o0_2 == (1 : Int) then (exit (Sum.inr ())) else none))
def fnDq15 (a : Aq15) : Option Yq15 := fnq15 a some
theorem fnq15_nat (a : Aq15) (k : Yq15 → Ans) : fnq15 a k = bindO (fnDq15 a) k := by
  obtain ⟨o0_2,o1_0,o1_1,o1_4,o1_5,o2_4,o2_5,o3,o4,o5,o6,o7,o8,o9,o10⟩ := a
  simp only [fnDq15,fnq15,bindO_cond,bindO_assoc,bindO_none,bindO_pure,bindO_elim,bindO_unP,bindO_empty]
def argsq15 : Aq15 → List AV × List AE.Obj := fun (o0_2,o1_0,o1_1,o1_4,o1_5,o2_4,o2_5,o3,o4,o5,o6,o7,o8,o9,o10) => ([.ptr 0 0],[.cells [.ifc 27 (.ptr 1 0),.ifc 27 (.ptr 2 0),.int .i64 o0_2,.own 3,.own 4],.cells [.ro (.int .i64) o1_0,.ro (.int .i64) o1_1,.own 5,.own 6,.int .i64 o1_4,.int .i64 o1_5],.cells [.own 7,.own 8,.own 9,.own 10,.int .i64 o2_4,.int .i64 o2_5],.arr (.st (.pair (.int .i64) .str)) o3,.arr (.st (.pair (.int .i64) (.int .i64))) o4,.arr (.st (.pair (.int .i64) (.int .i64))) o5,.arr (.st (.pair (.int .i64) .str)) o6,.arr (.int .i64) o7,.arr (.int .i64) o8,.arr (.st (.pair (.int .i64) (.int .i64))) o9,.arr (.st (.pair (.int .i64) .str)) o10])
def decPAq15 (l : List AV) (H : List AE.Obj) : Option {a : Aq15 // (l,H) = argsq15 a} := match l,H with
  | [.ptr 0 0],[.cells [.ifc 27 (.ptr 1 0),.ifc 27 (.ptr 2 0),.int .i64 o0_2,.own 3,.own 4],.cells [.ro (.int .i64) o1_0,.ro (.int .i64) o1_1,.own 5,.own 6,.int .i64 o1_4,.int .i64 o1_5],.cells [.own 7,.own 8,.own 9,.own 10,.int .i64 o2_4,.int .i64 o2_5],.arr (.st (.pair (.int .i64) .str)) o3,.arr (.st (.pair (.int .i64) (.int .i64))) o4,.arr (.st (.pair (.int .i64) (.int .i64))) o5,.arr (.st (.pair (.int .i64) .str)) o6,.arr (.int .i64) o7,.arr (.int .i64) o8,.arr (.st (.pair (.int .i64) (.int .i64))) o9,.arr (.st (.pair (.int .i64) .str)) o10] => some ⟨(o0_2,o1_0,o1_1,o1_4,o1_5,o2_4,o2_5,o3,o4,o5,o6,o7,o8,o9,o10),rfl⟩
  | _,_ => none
def decAq15 (l : List AV) (H : List AE.Obj) : Option Aq15 := pk (decPAq15 l H)
theorem decAq15_ok (l : List AV) (H : List AE.Obj) (a : Aq15) (h : decAq15 l H = some a) : (l,H) = argsq15 a := pk_ok (o := decPAq15 l H) h
def outq15 : Aq15 → (AV → List AE.Obj → Ans) → Yq15 → Ans := fun (o0_2,o1_0,o1_1,o1_4,o1_5,o2_4,o2_5,o3,o4,o5,o6,o7,o8,o9,o10) K => (Sum.elim (fun _ => K (.ifc 27 (.ptr 1 0)) [.cells [.ifc 27 (.ptr 1 0),.ifc 27 (.ptr 2 0),.int .i64 o0_2,.own 3,.own 4],.cells [.ro (.int .i64) o1_0,.ro (.int .i64) o1_1,.own 5,.own 6,.int .i64 o1_4,.int .i64 o1_5],.cells [.own 7,.own 8,.own 9,.own 10,.int .i64 o2_4,.int .i64 o2_5],.arr (.st (.pair (.int .i64) .str)) o3,.arr (.st (.pair (.int .i64) (.int .i64))) o4,.arr (.st (.pair (.int .i64) (.int .i64))) o5,.arr (.st (.pair (.int .i64) .str)) o6,.arr (.int .i64) o7,.arr (.int .i64) o8,.arr (.st (.pair (.int .i64) (.int .i64))) o9,.arr (.st (.pair (.int .i64) .str)) o10]) (fun _ => K (.ifc 27 (.ptr 2 0)) [.cells [.ifc 27 (.ptr 1 0),.ifc 27 (.ptr 2 0),.int .i64 o0_2,.own 3,.own 4],.cells [.ro (.int .i64) o1_0,.ro (.int .i64) o1_1,.own 5,.own 6,.int .i64 o1_4,.int .i64 o1_5],.cells [.own 7,.own 8,.own 9,.own 10,.int .i64 o2_4,.int .i64 o2_5],.arr (.st (.pair (.int .i64) .str)) o3,.arr (.st (.pair (.int .i64) (.int .i64))) o4,.arr (.st (.pair (.int .i64) (.int .i64))) o5,.arr (.st (.pair (.int .i64) .str)) o6,.arr (.int .i64) o7,.arr (.int .i64) o8,.arr (.st (.pair (.int .i64) (.int .i64))) o9,.arr (.st (.pair (.int .i64) .str)) o10]))
theorem fnq15_ok (a : Aq15) (K : AV → List AE.Obj → Ans) : fnE Try.tab envq15 noHint 0 70 21 Try.f21.ntmps Try.f21.results.toList annq15 bq15 (argsq15 a).1 (argsq15 a).2 K = fnq15 a (outq15 a K) := by kernel_rfl
def vFq15 (a : Aq15) (K : AV → List AE.Obj → Ans) : Ans := bindO (fnDq15 a) fun y => outq15 a K y
def Fq15 : List AV → List AE.Obj → (AV → List AE.Obj → Ans) → Ans := fun l H K => bindO (decAq15 l H) fun a => vFq15 a K
theorem Fq15_ok : FuncOk Try.prog 21 Fq15 := func_mkD (hint := noHint) (d := 0) (n := 70) mixed tabOk envq15Ok Try.func21 (bodySome (by kernel_rfl)) (by decide +kernel) annq15_ok decAq15_ok fnq15_ok fnq15_nat
--@ law44_Tape_Write_2
noncomputable def envq26 : Env := [(15,.func Fq28)]
theorem envq26Ok : EnvOk Try.prog envq26 := EnvOk.cons Fq28_ok (EnvOk.nil)
noncomputable def bq26 : Code := Try.f42.body.getD .skip
noncomputable def Lq26_n0 : Code := codeAt [1,1,0,1] bq26
noncomputable def annLq26_n0 : Ann := .none
theorem annLq26_n0_ok : AnnOk Try.prog 33 Lq26_n0 annLq26_n0 := (annOk_none _ _ _)
abbrev Iq26_n0 := (Int) × (List UInt8) × (Int) × (Bool) × (List Int) × (List Int) × (Int) × (Int) × (List (Int × Int)) × (List (Int × List UInt8)) × (Int) × (Int)
abbrev Yq26_n0 := ((List (Int × List UInt8))) ⊕ (Unit)
def Sq26_n0 : Iq26_n0 → St := fun (t1,t2,t9,t16,o0_0,o0_1,o0_4,o0_5,o1,o2,o4_0,o4_1) => { env := [(0,.ptr 0 0),(1,.int .i64 t1),(2,.str t2),(6,.ptr 3 0),(8,.ptr 4 0),(9,.int .i64 t9),(16,.bool t16)],stk := [[(0,.ptr 0 0)]],H := [.cells [.ro (.int .i64) o0_0,.ro (.int .i64) o0_1,.own 1,.own 2,.int .i64 o0_4,.int .i64 o0_5],.arr (.st (.pair (.int .i64) (.int .i64))) o1,.arr (.st (.pair (.int .i64) .str)) o2,.cells [.int .i64 (0),.int .i64 (0)],.cells [.int .i64 o4_0,.int .i64 o4_1]],blk := 172032 }
def decPq26_n0 (s : St) : Option {x : Iq26_n0 // s = Sq26_n0 x} := match s with
  | { env := [(0,.ptr 0 0),(1,.int .i64 t1),(2,.str t2),(6,.ptr 3 0),(8,.ptr 4 0),(9,.int .i64 t9),(16,.bool t16)],stk := [[(0,.ptr 0 0)]],H := [.cells [.ro (.int .i64) o0_0,.ro (.int .i64) o0_1,.own 1,.own 2,.int .i64 o0_4,.int .i64 o0_5],.arr (.st (.pair (.int .i64) (.int .i64))) o1,.arr (.st (.pair (.int .i64) .str)) o2,.cells [.int .i64 r10,.int .i64 r11],.cells [.int .i64 o4_0,.int .i64 o4_1]],blk := 172032 } => if h10 : r10 = 0 then if h11 : r11 = 0 then some ⟨(t1,t2,t9,t16,o0_0,o0_1,o0_4,o0_5,o1,o2,o4_0,o4_1),by subst h10 h11; rfl⟩ else none else none
  | _ => none
def decq26_n0 (s : St) : Option Iq26_n0 := pk (decPq26_n0 s)
theorem decq26_n0_ok (s : St) (x : Iq26_n0) (h : decq26_n0 s = some x) : s = Sq26_n0 x := pk_ok (o := decPq26_n0 s) h
def outq26_n0 : Iq26_n0 → (Ex → St → Ans) → Yq26_n0 → Ans := fun (t1,t2,t9,t16,o0_0,o0_1,o0_4,o0_5,o1,o2,o4_0,o4_1) K => (Sum.elim (fun o5_y => K (Ex.norm) { env := [(6,.ptr 3 0),(8,.ptr 4 0),(9,.int .i64 t9)],stk := [[(0,.ptr 0 0)]],H := [.cells [.ro (.int .i64) o0_0,.ro (.int .i64) o0_1,.own 1,.own 5,.int .i64 o0_4,.int .i64 o0_5],.arr (.st (.pair (.int .i64) (.int .i64))) o1,.arr (.st (.pair (.int .i64) .str)) o2,.cells [.int .i64 (0),.int .i64 (0)],.cells [.int .i64 o4_0,.int .i64 o4_1],.arr (.st (.pair (.int .i64) .str)) o5_y],blk := 172032 }) (fun _ => K (Ex.norm) { env := [(6,.ptr 3 0),(8,.ptr 4 0),(9,.int .i64 t9)],stk := [[(0,.ptr 0 0)]],H := [.cells [.ro (.int .i64) o0_0,.ro (.int .i64) o0_1,.own 1,.own 2,.int .i64 o0_4,.int .i64 o0_5],.arr (.st (.pair (.int .i64) (.int .i64))) o1,.arr (.st (.pair (.int .i64) .str)) o2,.cells [.int .i64 (0),.int .i64 (0)],.cells [.int .i64 o4_0,.int .i64 o4_1]],blk := 172032 }))
def nodeq26_n0 {β : Type} : Iq26_n0 → (Yq26_n0 → Option β) → Option β := fun (t1,t2,t9,t16,o0_0,o0_1,o0_4,o0_5,o1,o2,o4_0,o4_1) exit => (bif t16 then (bif Nat.ble (((0 : Nat) + List.length o2) * (24 : Nat)) (140737488355328 : Nat) then (bif Nat.ble ((List.length o2 + List.length [(t1,t2)]) * (24 : Nat)) (140737488355328 : Nat) then (exit (Sum.inl (o2 ++ [(t1,t2)]))) else none) else none) else (exit (Sum.inr ())))
def nodeDq26_n0 (i : Iq26_n0) : Option Yq26_n0 := nodeq26_n0 i some
theorem nodeq26_n0_nat (i : Iq26_n0) (k : Yq26_n0 → Ans) : nodeq26_n0 i k = bindO (nodeDq26_n0 i) k := by
  obtain ⟨t1,t2,t9,t16,o0_0,o0_1,o0_4,o0_5,o1,o2,o4_0,o4_1⟩ := i
  simp only [nodeDq26_n0,nodeq26_n0,bindO_cond,bindO_assoc,bindO_none,bindO_pure,bindO_elim,bindO_unP,bindO_empty]
theorem nodeq26_n0_ok (i : Iq26_n0) (K : Ex → St → Ans) : codeI Try.tab envq26 noHint (codeD Try.tab envq26 noHint 0 64) 70 33 annLq26_n0 Lq26_n0 (weakP 3 (exk [6,8,9] [6,7] []) K) (Sq26_n0 i) = nodeq26_n0 i (outq26_n0 i K) := by kernel_rfl
theorem GNq26_n0_ok : CSum Try.prog 33 Lq26_n0 (sumN decq26_n0 nodeDq26_n0 outq26_n0) := csum_node mixed tabOk envq26Ok 3 (exk [6,8,9] [6,7] []) annLq26_n0_ok decq26_n0_ok nodeq26_n0_ok nodeq26_n0_nat
noncomputable def Gq26_n0 : (Ex → St → Ans) → St → Ans := (sumN decq26_n0 nodeDq26_n0 outq26_n0)
theorem Gq26_n0_ok : CSum Try.prog 33 Lq26_n0 Gq26_n0 := GNq26_n0_ok
noncomputable def annq26 : Ann := (.seq .none (.seq .none (.seq (.seq .none (.cut 3 [0,1,2,6,8,9,16] Gq26_n0)) .none)))
theorem annq26_ok : AnnOk Try.prog 33 bq26 annq26 := ⟨(annOk_none _ _ _),⟨(annOk_none _ _ _),⟨⟨(annOk_none _ _ _),Gq26_n0_ok⟩,(annOk_none _ _ _)⟩⟩⟩
abbrev Aq26 := (Int) × (List UInt8) × (List Int) × (List Int) × (Int) × (Int) × (List (Int × Int)) × (List (Int × List UInt8))
abbrev Yq26 := ((Int) × (Int) × (Int) × (Int) × (Int) × (List (Int × List UInt8))) ⊕ ((Int) × (Int) × (Int) × (Int) × (Int))
def fnq26 {β : Type} : Aq26 → (Yq26 → Option β) → Option β := fun (a1,a2,o0_0,o0_1,o0_4,o0_5,o1,o2) exit => (bindO (fnDq28 (o0_0,o0_1,o0_4,o0_5,o1,o2)) (unP fun r_0_0 => unP fun r_0_1 => unP fun r_1 => unP fun o0_4_2 o0_5_2 => (bindO (nodeDq26_n0 (a1,a2,r_1,r_1 == (0 : Int),o0_0,o0_1,o0_4_2,o0_5_2,o1,o2,r_0_0,r_0_1)) (Sum.elim (fun o5 => (exit (Sum.inl (r_0_0,r_0_1,r_1,o0_4_2,o0_5_2,o5)))) (fun _ => (exit (Sum.inr (r_0_0,r_0_1,r_1,o0_4_2,o0_5_2))))))))
def fnDq26 (a : Aq26) : Option Yq26 := fnq26 a some
theorem fnq26_nat (a : Aq26) (k : Yq26 → Ans) : fnq26 a k = bindO (fnDq26 a) k := by
  obtain ⟨a1,a2,o0_0,o0_1,o0_4,o0_5,o1,o2⟩ := a
  simp only [fnDq26,fnq26,bindO_cond,bindO_assoc,bindO_none,bindO_pure,bindO_elim,bindO_unP,bindO_empty]
def argsq26 : Aq26 → List AV × List AE.Obj := fun (a1,a2,o0_0,o0_1,o0_4,o0_5,o1,o2) => ([.ptr 0 0,.int .i64 a1,.str a2],[.cells [.ro (.int .i64) o0_0,.ro (.int .i64) o0_1,.own 1,.own 2,.int .i64 o0_4,.int .i64 o0_5],.arr (.st (.pair (.int .i64) (.int .i64))) o1,.arr (.st (.pair (.int .i64) .str)) o2])
def decPAq26 (l : List AV) (H : List AE.Obj) : Option {a : Aq26 // (l,H) = argsq26 a} := match l,H with
  | [.ptr 0 0,.int .i64 a1,.str a2],[.cells [.ro (.int .i64) o0_0,.ro (.int .i64) o0_1,.own 1,.own 2,.int .i64 o0_4,.int .i64 o0_5],.arr (.st (.pair (.int .i64) (.int .i64))) o1,.arr (.st (.pair (.int .i64) .str)) o2] => some ⟨(a1,a2,o0_0,o0_1,o0_4,o0_5,o1,o2),rfl⟩
  | _,_ => none
def decAq26 (l : List AV) (H : List AE.Obj) : Option Aq26 := pk (decPAq26 l H)
theorem decAq26_ok (l : List AV) (H : List AE.Obj) (a : Aq26) (h : decAq26 l H = some a) : (l,H) = argsq26 a := pk_ok (o := decPAq26 l H) h
def outq26 : Aq26 → (AV → List AE.Obj → Ans) → Yq26 → Ans := fun (a1,a2,o0_0,o0_1,o0_4,o0_5,o1,o2) K => (Sum.elim (unP fun r_0_0_y => unP fun r_0_1_y => unP fun r_1_y => unP fun o0_4_y => unP fun o0_5_y o3_y => K (.tup [.agg [.int .i64 r_0_0_y,.int .i64 r_0_1_y],.int .i64 r_1_y]) [.cells [.ro (.int .i64) o0_0,.ro (.int .i64) o0_1,.own 1,.own 3,.int .i64 o0_4_y,.int .i64 o0_5_y],.arr (.st (.pair (.int .i64) (.int .i64))) o1,.arr (.st (.pair (.int .i64) .str)) o2,.arr (.st (.pair (.int .i64) .str)) o3_y]) (unP fun r_0_0_y => unP fun r_0_1_y => unP fun r_1_y => unP fun o0_4_y o0_5_y => K (.tup [.agg [.int .i64 r_0_0_y,.int .i64 r_0_1_y],.int .i64 r_1_y]) [.cells [.ro (.int .i64) o0_0,.ro (.int .i64) o0_1,.own 1,.own 2,.int .i64 o0_4_y,.int .i64 o0_5_y],.arr (.st (.pair (.int .i64) (.int .i64))) o1,.arr (.st (.pair (.int .i64) .str)) o2]))
theorem fnq26_ok (a : Aq26) (K : AV → List AE.Obj → Ans) : fnE Try.tab envq26 noHint 0 70 42 Try.f42.ntmps Try.f42.results.toList annq26 bq26 (argsq26 a).1 (argsq26 a).2 K = fnq26 a (outq26 a K) := by kernel_rfl
def vFq26 (a : Aq26) (K : AV → List AE.Obj → Ans) : Ans := bindO (fnDq26 a) fun y => outq26 a K y
def Fq26 : List AV → List AE.Obj → (AV → List AE.Obj → Ans) → Ans := fun l H K => bindO (decAq26 l H) fun a => vFq26 a K
theorem Fq26_ok : FuncOk Try.prog 42 Fq26 := func_mkD (hint := noHint) (d := 0) (n := 70) mixed tabOk envq26Ok Try.func42 (bodySome (by kernel_rfl)) (by decide +kernel) annq26_ok decAq26_ok fnq26_ok fnq26_nat
--@ client_Client_Write_2
noncomputable def envq10 : Env := [(42,.func (altF decAq25 vFq25 Fq26)),(21,.func Fq15)]
theorem envq10Ok : EnvOk Try.prog envq10 := EnvOk.cons (func_altF Fq25_ok Fq26_ok) (EnvOk.cons Fq15_ok (EnvOk.nil))
noncomputable def bq10 : Code := Try.f9.body.getD .skip
noncomputable def annq10 : Ann := .none
theorem annq10_ok : AnnOk Try.prog 44 bq10 annq10 := (annOk_none _ _ _)
abbrev Aq10 := (Int) × (List UInt8) × (Int) × (List Int) × (List Int) × (Int) × (Int) × (Int) × (Int) × (List (Int × List UInt8)) × (List (Int × Int)) × (List (Int × Int)) × (List (Int × List UInt8)) × (List Int) × (List Int) × (List (Int × Int)) × (List (Int × List UInt8))
abbrev Yq10 := ((Int) × (Int) × (Int) × (Int) × (Int) × (List (Int × List UInt8))) ⊕ ((Int) × (Int) × (Int) × (List (Int × List UInt8)) × (List (Int × List UInt8))) ⊕ ((Int) × (Int) × (Int) × (List (Int × List UInt8)) × (List (Int × List UInt8)))
def fnq10 {β : Type} : Aq10 → (Yq10 → Option β) → Option β := fun (a1,a2,o0_2,o1_0,o1_1,o1_4,o1_5,o2_4,o2_5,o3,o4,o5,o6,o7,o8,o9,o10) exit => (bindO (fnDq15 (o0_2,o1_0,o1_1,o1_4,o1_5,o2_4,o2_5,o3,o4,o5,o6,o7,o8,o9,o10)) (Sum.elim (fun _ => (bif decide ((↑(List.length o3) : Int) ≥ (200 : Int)) then (exit (Sum.inl ((6 : Int),o1_4,o1_5,o2_4,o2_5,o3))) else (bindO (fnDq26 (a1,a2,o1_0,o1_1,o1_4,o1_5,o5,o6)) (Sum.elim (unP fun r_0_0 => unP fun r_0_1 => unP fun r_1 => unP fun o0_4 => unP fun o0_5 o3_2 => (bif r_1 != (0 : Int) then (exit (Sum.inr (Sum.inl (r_1,o0_4,o0_5,o3,o3_2)))) else (bif Nat.ble ((List.length o3 + List.length [(a1,a2)]) * (24 : Nat)) (140737488355328 : Nat) then (exit (Sum.inr (Sum.inl ((0 : Int),o0_4,o0_5,o3 ++ [(a1,a2)],o3_2)))) else none))) (unP fun r_0_0 => unP fun r_0_1 => unP fun r_1 => unP fun o0_4 o0_5 => (bif r_1 != (0 : Int) then (exit (Sum.inl (r_1,o0_4,o0_5,o2_4,o2_5,o3))) else (bif Nat.ble ((List.length o3 + List.length [(a1,a2)]) * (24 : Nat)) (140737488355328 : Nat) then (exit (Sum.inl ((0 : Int),o0_4,o0_5,o2_4,o2_5,o3 ++ [(a1,a2)]))) else none))))))) (fun _ => (bif decide ((↑(List.length o3) : Int) ≥ (200 : Int)) then (exit (Sum.inl ((6 : Int),o1_4,o1_5,o2_4,o2_5,o3))) else (bindO (fnDq25 (a1,a2,o2_4,o2_5,o7,o8,o9,o10)) (Sum.elim (unP fun r_0_0 => unP fun r_0_1 => unP fun r_1 => unP fun o0_4 => unP fun o0_5 o5_2 => (bif r_1 != (0 : Int) then (exit (Sum.inr (Sum.inr (r_1,o0_4,o0_5,o3,o5_2)))) else (bif Nat.ble ((List.length o3 + List.length [(a1,a2)]) * (24 : Nat)) (140737488355328 : Nat) then (exit (Sum.inr (Sum.inr ((0 : Int),o0_4,o0_5,o3 ++ [(a1,a2)],o5_2)))) else none))) (unP fun r_0_0 => unP fun r_0_1 => unP fun r_1 => unP fun o0_4 o0_5 => (bif r_1 != (0 : Int) then (exit (Sum.inl (r_1,o1_4,o1_5,o0_4,o0_5,o3))) else (bif Nat.ble ((List.length o3 + List.length [(a1,a2)]) * (24 : Nat)) (140737488355328 : Nat) then (exit (Sum.inl ((0 : Int),o1_4,o1_5,o0_4,o0_5,o3 ++ [(a1,a2)]))) else none)))))))))
def fnDq10 (a : Aq10) : Option Yq10 := fnq10 a some
theorem fnq10_nat (a : Aq10) (k : Yq10 → Ans) : fnq10 a k = bindO (fnDq10 a) k := by
  obtain ⟨a1,a2,o0_2,o1_0,o1_1,o1_4,o1_5,o2_4,o2_5,o3,o4,o5,o6,o7,o8,o9,o10⟩ := a
  simp only [fnDq10,fnq10,bindO_cond,bindO_assoc,bindO_none,bindO_pure,bindO_elim,bindO_unP,bindO_empty]
def argsq10 : Aq10 → List AV × List AE.Obj := fun (a1,a2,o0_2,o1_0,o1_1,o1_4,o1_5,o2_4,o2_5,o3,o4,o5,o6,o7,o8,o9,o10) => ([.ptr 0 0,.int .i64 a1,.str a2],[.cells [.ifc 27 (.ptr 1 0),.ifc 27 (.ptr 2 0),.int .i64 o0_2,.own 3,.own 4],.cells [.ro (.int .i64) o1_0,.ro (.int .i64) o1_1,.own 5,.own 6,.int .i64 o1_4,.int .i64 o1_5],.cells [.own 7,.own 8,.own 9,.own 10,.int .i64 o2_4,.int .i64 o2_5],.arr (.st (.pair (.int .i64) .str)) o3,.arr (.st (.pair (.int .i64) (.int .i64))) o4,.arr (.st (.pair (.int .i64) (.int .i64))) o5,.arr (.st (.pair (.int .i64) .str)) o6,.arr (.int .i64) o7,.arr (.int .i64) o8,.arr (.st (.pair (.int .i64) (.int .i64))) o9,.arr (.st (.pair (.int .i64) .str)) o10])
def decPAq10 (l : List AV) (H : List AE.Obj) : Option {a : Aq10 // (l,H) = argsq10 a} := match l,H with
  | [.ptr 0 0,.int .i64 a1,.str a2],[.cells [.ifc 27 (.ptr 1 0),.ifc 27 (.ptr 2 0),.int .i64 o0_2,.own 3,.own 4],.cells [.ro (.int .i64) o1_0,.ro (.int .i64) o1_1,.own 5,.own 6,.int .i64 o1_4,.int .i64 o1_5],.cells [.own 7,.own 8,.own 9,.own 10,.int .i64 o2_4,.int .i64 o2_5],.arr (.st (.pair (.int .i64) .str)) o3,.arr (.st (.pair (.int .i64) (.int .i64))) o4,.arr (.st (.pair (.int .i64) (.int .i64))) o5,.arr (.st (.pair (.int .i64) .str)) o6,.arr (.int .i64) o7,.arr (.int .i64) o8,.arr (.st (.pair (.int .i64) (.int .i64))) o9,.arr (.st (.pair (.int .i64) .str)) o10] => some ⟨(a1,a2,o0_2,o1_0,o1_1,o1_4,o1_5,o2_4,o2_5,o3,o4,o5,o6,o7,o8,o9,o10),rfl⟩
  | _,_ => none
def decAq10 (l : List AV) (H : List AE.Obj) : Option Aq10 := pk (decPAq10 l H)
theorem decAq10_ok (l : List AV) (H : List AE.Obj) (a : Aq10) (h : decAq10 l H = some a) : (l,H) = argsq10 a := pk_ok (o := decPAq10 l H) h
def outq10 : Aq10 → (AV → List AE.Obj → Ans) → Yq10 → Ans := fun (a1,a2,o0_2,o1_0,o1_1,o1_4,o1_5,o2_4,o2_5,o3,o4,o5,o6,o7,o8,o9,o10) K => (Sum.elim (unP fun r_y => unP fun o1_4_y => unP fun o1_5_y => unP fun o2_4_y => unP fun o2_5_y o3_y => K (.int .i64 r_y) [.cells [.ifc 27 (.ptr 1 0),.ifc 27 (.ptr 2 0),.int .i64 o0_2,.own 3,.own 4],.cells [.ro (.int .i64) o1_0,.ro (.int .i64) o1_1,.own 5,.own 6,.int .i64 o1_4_y,.int .i64 o1_5_y],.cells [.own 7,.own 8,.own 9,.own 10,.int .i64 o2_4_y,.int .i64 o2_5_y],.arr (.st (.pair (.int .i64) .str)) o3_y,.arr (.st (.pair (.int .i64) (.int .i64))) o4,.arr (.st (.pair (.int .i64) (.int .i64))) o5,.arr (.st (.pair (.int .i64) .str)) o6,.arr (.int .i64) o7,.arr (.int .i64) o8,.arr (.st (.pair (.int .i64) (.int .i64))) o9,.arr (.st (.pair (.int .i64) .str)) o10]) ((Sum.elim (unP fun r_y => unP fun o1_4_y => unP fun o1_5_y => unP fun o3_y o11_y => K (.int .i64 r_y) [.cells [.ifc 27 (.ptr 1 0),.ifc 27 (.ptr 2 0),.int .i64 o0_2,.own 3,.own 4],.cells [.ro (.int .i64) o1_0,.ro (.int .i64) o1_1,.own 5,.own 11,.int .i64 o1_4_y,.int .i64 o1_5_y],.cells [.own 7,.own 8,.own 9,.own 10,.int .i64 o2_4,.int .i64 o2_5],.arr (.st (.pair (.int .i64) .str)) o3_y,.arr (.st (.pair (.int .i64) (.int .i64))) o4,.arr (.st (.pair (.int .i64) (.int .i64))) o5,.arr (.st (.pair (.int .i64) .str)) o6,.arr (.int .i64) o7,.arr (.int .i64) o8,.arr (.st (.pair (.int .i64) (.int .i64))) o9,.arr (.st (.pair (.int .i64) .str)) o10,.arr (.st (.pair (.int .i64) .str)) o11_y]) (unP fun r_y => unP fun o2_4_y => unP fun o2_5_y => unP fun o3_y o11_y => K (.int .i64 r_y) [.cells [.ifc 27 (.ptr 1 0),.ifc 27 (.ptr 2 0),.int .i64 o0_2,.own 3,.own 4],.cells [.ro (.int .i64) o1_0,.ro (.int .i64) o1_1,.own 5,.own 6,.int .i64 o1_4,.int .i64 o1_5],.cells [.own 7,.own 8,.own 9,.own 11,.int .i64 o2_4_y,.int .i64 o2_5_y],.arr (.st (.pair (.int .i64) .str)) o3_y,.arr (.st (.pair (.int .i64) (.int .i64))) o4,.arr (.st (.pair (.int .i64) (.int .i64))) o5,.arr (.st (.pair (.int .i64) .str)) o6,.arr (.int .i64) o7,.arr (.int .i64) o8,.arr (.st (.pair (.int .i64) (.int .i64))) o9,.arr (.st (.pair (.int .i64) .str)) o10,.arr (.st (.pair (.int .i64) .str)) o11_y]))))
theorem fnq10_ok (a : Aq10) (K : AV → List AE.Obj → Ans) : fnE Try.tab envq10 noHint 0 70 9 Try.f9.ntmps Try.f9.results.toList annq10 bq10 (argsq10 a).1 (argsq10 a).2 K = fnq10 a (outq10 a K) := by kernel_rfl
def vFq10 (a : Aq10) (K : AV → List AE.Obj → Ans) : Ans := bindO (fnDq10 a) fun y => outq10 a K y
def Fq10 : List AV → List AE.Obj → (AV → List AE.Obj → Ans) → Ans := fun l H K => bindO (decAq10 l H) fun a => vFq10 a K
theorem Fq10_ok : FuncOk Try.prog 9 Fq10 := func_mkD (hint := noHint) (d := 0) (n := 70) mixed tabOk envq10Ok Try.func9 (bodySome (by kernel_rfl)) (by decide +kernel) annq10_ok decAq10_ok fnq10_ok fnq10_nat
--@ law44_Tape_Flush_2
noncomputable def envq23 : Env := [(15,.func Fq28)]
theorem envq23Ok : EnvOk Try.prog envq23 := EnvOk.cons Fq28_ok (EnvOk.nil)
noncomputable def bq23 : Code := Try.f40.body.getD .skip
noncomputable def annq23 : Ann := .none
theorem annq23_ok : AnnOk Try.prog 8 bq23 annq23 := (annOk_none _ _ _)
abbrev Aq23 := (List Int) × (List Int) × (Int) × (Int) × (List (Int × Int)) × (List (Int × List UInt8))
abbrev Yq23 := (Int) × (Int) × (Int) × (Int) × (Int)
def fnq23 {β : Type} : Aq23 → (Yq23 → Option β) → Option β := fun (o0_0,o0_1,o0_4,o0_5,o1,o2) exit => (bindO (fnDq28 (o0_0,o0_1,o0_4,o0_5,o1,o2)) (unP fun r_0_0 => unP fun r_0_1 => unP fun r_1 => unP fun o0_4_2 o0_5_2 => (exit (r_0_0,r_0_1,r_1,o0_4_2,o0_5_2))))
def fnDq23 (a : Aq23) : Option Yq23 := fnq23 a some
theorem fnq23_nat (a : Aq23) (k : Yq23 → Ans) : fnq23 a k = bindO (fnDq23 a) k := by
  obtain ⟨o0_0,o0_1,o0_4,o0_5,o1,o2⟩ := a
  simp only [fnDq23,fnq23,bindO_cond,bindO_assoc,bindO_none,bindO_pure,bindO_elim,bindO_unP,bindO_empty]
def argsq23 : Aq23 → List AV × List AE.Obj := fun (o0_0,o0_1,o0_4,o0_5,o1,o2) => ([.ptr 0 0],[.cells [.ro (.int .i64) o0_0,.ro (.int .i64) o0_1,.own 1,.own 2,.int .i64 o0_4,.int .i64 o0_5],.arr (.st (.pair (.int .i64) (.int .i64))) o1,.arr (.st (.pair (.int .i64) .str)) o2])
def decPAq23 (l : List AV) (H : List AE.Obj) : Option {a : Aq23 // (l,H) = argsq23 a} := match l,H with
  | [.ptr 0 0],[.cells [.ro (.int .i64) o0_0,.ro (.int .i64) o0_1,.own 1,.own 2,.int .i64 o0_4,.int .i64 o0_5],.arr (.st (.pair (.int .i64) (.int .i64))) o1,.arr (.st (.pair (.int .i64) .str)) o2] => some ⟨(o0_0,o0_1,o0_4,o0_5,o1,o2),rfl⟩
  | _,_ => none
def decAq23 (l : List AV) (H : List AE.Obj) : Option Aq23 := pk (decPAq23 l H)
theorem decAq23_ok (l : List AV) (H : List AE.Obj) (a : Aq23) (h : decAq23 l H = some a) : (l,H) = argsq23 a := pk_ok (o := decPAq23 l H) h
def outq23 : Aq23 → (AV → List AE.Obj → Ans) → Yq23 → Ans := fun (o0_0,o0_1,o0_4,o0_5,o1,o2) K => unP fun r_0_0_y => unP fun r_0_1_y => unP fun r_1_y => unP fun o0_4_y o0_5_y => K (.tup [.agg [.int .i64 r_0_0_y,.int .i64 r_0_1_y],.int .i64 r_1_y]) [.cells [.ro (.int .i64) o0_0,.ro (.int .i64) o0_1,.own 1,.own 2,.int .i64 o0_4_y,.int .i64 o0_5_y],.arr (.st (.pair (.int .i64) (.int .i64))) o1,.arr (.st (.pair (.int .i64) .str)) o2]
theorem fnq23_ok (a : Aq23) (K : AV → List AE.Obj → Ans) : fnE Try.tab envq23 noHint 0 70 40 Try.f40.ntmps Try.f40.results.toList annq23 bq23 (argsq23 a).1 (argsq23 a).2 K = fnq23 a (outq23 a K) := by kernel_rfl
def vFq23 (a : Aq23) (K : AV → List AE.Obj → Ans) : Ans := bindO (fnDq23 a) fun y => outq23 a K y
def Fq23 : List AV → List AE.Obj → (AV → List AE.Obj → Ans) → Ans := fun l H K => bindO (decAq23 l H) fun a => vFq23 a K
theorem Fq23_ok : FuncOk Try.prog 40 Fq23 := func_mkD (hint := noHint) (d := 0) (n := 70) mixed tabOk envq23Ok Try.func40 (bodySome (by kernel_rfl)) (by decide +kernel) annq23_ok decAq23_ok fnq23_ok fnq23_nat
--@ client_Client_forget_2
noncomputable def envq13 : Env := []
theorem envq13Ok : EnvOk Try.prog envq13 := EnvOk.nil
noncomputable def bq13 : Code := Try.f22.body.getD .skip
noncomputable def Lq13_n0 : Code := codeAt [1,1,1,1,0,0] bq13
noncomputable def annLq13_n0 : Ann := .at 11 [0,1,30,31] (.loop .none)
theorem annLq13_n0_ok : AnnOk Try.prog 53 (.loop Lq13_n0) annLq13_n0 := annOk_at (annOk_none _ _ _)
abbrev Iq13_n0 := (Int) × (Int) × (Int) × (List Int) × (List Int) × (Int) × (Int) × (Int) × (Int) × (List (Int × List UInt8)) × (List (Int × Int)) × (List (Int × List UInt8)) × (List Int) × (List Int) × (List (Int × Int)) × (List (Int × List UInt8)) × (List (Int × List UInt8))
abbrev Yq13_n0 := (List (Int × Int))
abbrev Vq13_n0 := (Int) × (List (Int × Int))
def Sq13_n0 : Iq13_n0 → Vq13_n0 → St := fun (t1,t30,o0_2,o1_0,o1_1,o1_4,o1_5,o2_4,o2_5,o3,o5,o6,o7,o8,o9,o10,o11) (t31,o4) => { env := [(0,.ptr 0 0),(1,.int .i64 t1),(30,.int .i64 t30),(31,.int .i64 t31)],stk := [[(0,.ptr 0 0),(1,.ptr 1 0),(2,.ptr 2 0)]],H := [.cells [.ifc 27 (.ptr 1 0),.ifc 27 (.ptr 2 0),.int .i64 o0_2,.own 11,.own 4],.cells [.ro (.int .i64) o1_0,.ro (.int .i64) o1_1,.own 5,.own 6,.int .i64 o1_4,.int .i64 o1_5],.cells [.own 7,.own 8,.own 9,.own 10,.int .i64 o2_4,.int .i64 o2_5],.arr (.st (.pair (.int .i64) .str)) o3,.arr (.st (.pair (.int .i64) (.int .i64))) o4,.arr (.st (.pair (.int .i64) (.int .i64))) o5,.arr (.st (.pair (.int .i64) .str)) o6,.arr (.int .i64) o7,.arr (.int .i64) o8,.arr (.st (.pair (.int .i64) (.int .i64))) o9,.arr (.st (.pair (.int .i64) .str)) o10,.arr (.st (.pair (.int .i64) .str)) o11],blk := 90112 }
def decPq13_n0 (s : St) : Option {x : Iq13_n0 × Vq13_n0 // s = Sq13_n0 x.1 x.2} := match s with
  | { env := [(0,.ptr 0 0),(1,.int .i64 t1),(30,.int .i64 t30),(31,.int .i64 t31)],stk := [[(0,.ptr 0 0),(1,.ptr 1 0),(2,.ptr 2 0)]],H := [.cells [.ifc 27 (.ptr 1 0),.ifc 27 (.ptr 2 0),.int .i64 o0_2,.own 11,.own 4],.cells [.ro (.int .i64) o1_0,.ro (.int .i64) o1_1,.own 5,.own 6,.int .i64 o1_4,.int .i64 o1_5],.cells [.own 7,.own 8,.own 9,.own 10,.int .i64 o2_4,.int .i64 o2_5],.arr (.st (.pair (.int .i64) .str)) o3,.arr (.st (.pair (.int .i64) (.int .i64))) o4,.arr (.st (.pair (.int .i64) (.int .i64))) o5,.arr (.st (.pair (.int .i64) .str)) o6,.arr (.int .i64) o7,.arr (.int .i64) o8,.arr (.st (.pair (.int .i64) (.int .i64))) o9,.arr (.st (.pair (.int .i64) .str)) o10,.arr (.st (.pair (.int .i64) .str)) o11],blk := 90112 } => some ⟨((t1,t30,o0_2,o1_0,o1_1,o1_4,o1_5,o2_4,o2_5,o3,o5,o6,o7,o8,o9,o10,o11),(t31,o4)),rfl⟩
  | _ => none
def decq13_n0 (s : St) : Option (Iq13_n0 × Vq13_n0) := pk (decPq13_n0 s)
theorem decq13_n0_ok (s : St) (x : Iq13_n0 × Vq13_n0) (h : decq13_n0 s = some x) : s = Sq13_n0 x.1 x.2 := pk_ok (o := decPq13_n0 s) h
def outq13_n0 : Iq13_n0 → (Ex → St → Ans) → Yq13_n0 → Ans := fun (t1,t30,o0_2,o1_0,o1_1,o1_4,o1_5,o2_4,o2_5,o3,o5,o6,o7,o8,o9,o10,o11) K => fun o4_y => K (Ex.exit 0) { env := [],stk := [[(0,.ptr 0 0),(1,.ptr 1 0),(2,.ptr 2 0)]],H := [.cells [.ifc 27 (.ptr 1 0),.ifc 27 (.ptr 2 0),.int .i64 o0_2,.own 11,.own 4],.cells [.ro (.int .i64) o1_0,.ro (.int .i64) o1_1,.own 5,.own 6,.int .i64 o1_4,.int .i64 o1_5],.cells [.own 7,.own 8,.own 9,.own 10,.int .i64 o2_4,.int .i64 o2_5],.arr (.st (.pair (.int .i64) .str)) o3,.arr (.st (.pair (.int .i64) (.int .i64))) o4_y,.arr (.st (.pair (.int .i64) (.int .i64))) o5,.arr (.st (.pair (.int .i64) .str)) o6,.arr (.int .i64) o7,.arr (.int .i64) o8,.arr (.st (.pair (.int .i64) (.int .i64))) o9,.arr (.st (.pair (.int .i64) .str)) o10,.arr (.st (.pair (.int .i64) .str)) o11],blk := 90112 }
def stepq13_n0 {β : Type} : Iq13_n0 → Vq13_n0 → (Vq13_n0 → Option β) → (Yq13_n0 → Option β) → Option β := fun (t1,t30,o0_2,o1_0,o1_1,o1_4,o1_5,o2_4,o2_5,o3,o5,o6,o7,o8,o9,o10,o11) (t31,o4) next exit => (bif decide (t31 < t30) then (bif inR t31 (List.length o4) then (bindO (o4[Int.toNat t31]?) fun x => (bif inR t31 (List.length o4) then (bindO (o4[Int.toNat t31]?) fun x_2 => (next (IntKind.wrap .i64 (t31 + (1 : Int)),List.set o4 (Int.toNat t31) (x_2.fst,if (0 : Int) > IntKind.wrap .i64 (x.snd - t1) then (0 : Int) else IntKind.wrap .i64 (x.snd - t1))))) else none)) else none) else (exit (o4)))
def stepDq13_n0 (i : Iq13_n0) (v : Vq13_n0) : Option (Vq13_n0 ⊕ Yq13_n0) := stepq13_n0 i v (fun v => some (.inl v)) (fun y => some (.inr y))
theorem stepq13_n0_nat (i : Iq13_n0) (v : Vq13_n0) (next : Vq13_n0 → Ans) (exit : Yq13_n0 → Ans) : stepq13_n0 i v next exit = bindO (stepDq13_n0 i v) (Sum.elim next exit) := by
  obtain ⟨t1,t30,o0_2,o1_0,o1_1,o1_4,o1_5,o2_4,o2_5,o3,o5,o6,o7,o8,o9,o10,o11⟩ := i
  obtain ⟨t31,o4⟩ := v
  simp only [stepDq13_n0,stepq13_n0,bindO_cond,bindO_assoc,bindO_none,bindO_pure,bindO_elim,bindO_unP,bindO_empty,Sum.elim_inl,Sum.elim_inr]
theorem stepq13_n0_ok (n : Nat) (i : Iq13_n0) (v : Vq13_n0) (K : Ex → St → Ans) : codeI Try.tab envq13 noHint (codeD Try.tab envq13 noHint 0 64) (n+1) 53 annLq13_n0 (.loop Lq13_n0) (weakP 11 (exk [] [] [(0,[])]) K) (Sq13_n0 i v) = stepq13_n0 i v (fun v' => codeI Try.tab envq13 noHint (codeD Try.tab envq13 noHint 0 64) n 53 annLq13_n0 (.loop Lq13_n0) (weakP 11 (exk [] [] [(0,[])]) K) (Sq13_n0 i v')) (fun y => outq13_n0 i K y) := by kernel_rfl
theorem GNq13_n0_ok : CSum Try.prog 53 (.loop Lq13_n0) (sumL decq13_n0 stepDq13_n0 outq13_n0) := csum_loop mixed tabOk envq13Ok 11 (exk [] [] [(0,[])]) annLq13_n0_ok decq13_n0_ok stepq13_n0_ok stepq13_n0_nat
noncomputable def Gq13_n0 : (Ex → St → Ans) → St → Ans := (sumL decq13_n0 stepDq13_n0 outq13_n0)
theorem Gq13_n0_ok : CSum Try.prog 53 (.loop Lq13_n0) Gq13_n0 := GNq13_n0_ok
noncomputable def annq13 : Ann := (.seq .none (.seq .none (.seq .none (.seq .none (.block (.cut 11 [0,1,30,31] Gq13_n0))))))
theorem annq13_ok : AnnOk Try.prog 53 bq13 annq13 := ⟨(annOk_none _ _ _),⟨(annOk_none _ _ _),⟨(annOk_none _ _ _),⟨(annOk_none _ _ _),Gq13_n0_ok⟩⟩⟩⟩
abbrev Aq13 := (Int) × (Int) × (List Int) × (List Int) × (Int) × (Int) × (Int) × (Int) × (List (Int × List UInt8)) × (List (Int × Int)) × (List (Int × Int)) × (List (Int × List UInt8)) × (List Int) × (List Int) × (List (Int × Int)) × (List (Int × List UInt8))
abbrev Yq13 := (List (Int × Int)) × (List (Int × List UInt8))
def fnq13 {β : Type} : Aq13 → (Yq13 → Option β) → Option β := fun (a1,o0_2,o1_0,o1_1,o1_4,o1_5,o2_4,o2_5,o3,o4,o5,o6,o7,o8,o9,o10) exit => (bif decide ((0 : Int) ≤ IntKind.wrap .i64 ((↑(List.length o3) : Int) - a1)) && decide (IntKind.wrap .i64 ((↑(List.length o3) : Int) - a1) ≤ IntKind.wrap .i64 ((↑(List.length o3) : Int) - a1)) && decide ((24 : Int) * IntKind.wrap .i64 ((↑(List.length o3) : Int) - a1) ≤ (281474976710656 : Int)) && decide (IntKind.wrap .i64 ((↑(List.length o3) : Int) - a1) ≤ (9223372036854775807 : Int)) then (bif inR a1 (List.length o3 + (1 : Nat)) then (bif Nat.ble (Int.toNat a1 + (List.length o3 - Int.toNat a1)) (List.length o3) then (bindO (loopD (stepDq13_n0 (a1,(↑(List.length o4) : Int),o0_2,o1_0,o1_1,o1_4,o1_5,o2_4,o2_5,o3,o5,o6,o7,o8,o9,o10,List.take (List.length (List.replicate (Int.toNat (IntKind.wrap .i64 ((↑(List.length o3) : Int) - a1))) ((0 : Int),nilL UInt8))) (List.take (List.length o3 - Int.toNat a1) (List.drop (Int.toNat a1) o3)) ++ List.drop (List.length (List.take (List.length o3 - Int.toNat a1) (List.drop (Int.toNat a1) o3))) (List.replicate (Int.toNat (IntKind.wrap .i64 ((↑(List.length o3) : Int) - a1))) ((0 : Int),nilL UInt8)))) FUEL ((0 : Int),o4)) fun o4_2 => (exit (o4_2,List.take (List.length (List.replicate (Int.toNat (IntKind.wrap .i64 ((↑(List.length o3) : Int) - a1))) ((0 : Int),nilL UInt8))) (List.take (List.length o3 - Int.toNat a1) (List.drop (Int.toNat a1) o3)) ++ List.drop (List.length (List.take (List.length o3 - Int.toNat a1) (List.drop (Int.toNat a1) o3))) (List.replicate (Int.toNat (IntKind.wrap .i64 ((↑(List.length o3) : Int) - a1))) ((0 : Int),nilL UInt8))))) else none) else none) else none)
def fnDq13 (a : Aq13) : Option Yq13 := fnq13 a some
theorem fnq13_nat (a : Aq13) (k : Yq13 → Ans) : fnq13 a k = bindO (fnDq13 a) k := by
  obtain ⟨a1,o0_2,o1_0,o1_1,o1_4,o1_5,o2_4,o2_5,o3,o4,o5,o6,o7,o8,o9,o10⟩ := a
  simp only [fnDq13,fnq13,bindO_cond,bindO_assoc,bindO_none,bindO_pure,bindO_elim,bindO_unP,bindO_empty]
def argsq13 : Aq13 → List AV × List AE.Obj := fun (a1,o0_2,o1_0,o1_1,o1_4,o1_5,o2_4,o2_5,o3,o4,o5,o6,o7,o8,o9,o10) => ([.ptr 0 0,.int .i64 a1],[.cells [.ifc 27 (.ptr 1 0),.ifc 27 (.ptr 2 0),.int .i64 o0_2,.own 3,.own 4],.cells [.ro (.int .i64) o1_0,.ro (.int .i64) o1_1,.own 5,.own 6,.int .i64 o1_4,.int .i64 o1_5],.cells [.own 7,.own 8,.own 9,.own 10,.int .i64 o2_4,.int .i64 o2_5],.arr (.st (.pair (.int .i64) .str)) o3,.arr (.st (.pair (.int .i64) (.int .i64))) o4,.arr (.st (.pair (.int .i64) (.int .i64))) o5,.arr (.st (.pair (.int .i64) .str)) o6,.arr (.int .i64) o7,.arr (.int .i64) o8,.arr (.st (.pair (.int .i64) (.int .i64))) o9,.arr (.st (.pair (.int .i64) .str)) o10])
def decPAq13 (l : List AV) (H : List AE.Obj) : Option {a : Aq13 // (l,H) = argsq13 a} := match l,H with
  | [.ptr 0 0,.int .i64 a1],[.cells [.ifc 27 (.ptr 1 0),.ifc 27 (.ptr 2 0),.int .i64 o0_2,.own 3,.own 4],.cells [.ro (.int .i64) o1_0,.ro (.int .i64) o1_1,.own 5,.own 6,.int .i64 o1_4,.int .i64 o1_5],.cells [.own 7,.own 8,.own 9,.own 10,.int .i64 o2_4,.int .i64 o2_5],.arr (.st (.pair (.int .i64) .str)) o3,.arr (.st (.pair (.int .i64) (.int .i64))) o4,.arr (.st (.pair (.int .i64) (.int .i64))) o5,.arr (.st (.pair (.int .i64) .str)) o6,.arr (.int .i64) o7,.arr (.int .i64) o8,.arr (.st (.pair (.int .i64) (.int .i64))) o9,.arr (.st (.pair (.int .i64) .str)) o10] => some ⟨(a1,o0_2,o1_0,o1_1,o1_4,o1_5,o2_4,o2_5,o3,o4,o5,o6,o7,o8,o9,o10),rfl⟩
  | _,_ => none
def decAq13 (l : List AV) (H : List AE.Obj) : Option Aq13 := pk (decPAq13 l H)
theorem decAq13_ok (l : List AV) (H : List AE.Obj) (a : Aq13) (h : decAq13 l H = some a) : (l,H) = argsq13 a := pk_ok (o := decPAq13 l H) h
def outq13 : Aq13 → (AV → List AE.Obj → Ans) → Yq13 → Ans := fun (a1,o0_2,o1_0,o1_1,o1_4,o1_5,o2_4,o2_5,o3,o4,o5,o6,o7,o8,o9,o10) K => unP fun o4_y o11_y => K (.tup []) [.cells [.ifc 27 (.ptr 1 0),.ifc 27 (.ptr 2 0),.int .i64 o0_2,.own 11,.own 4],.cells [.ro (.int .i64) o1_0,.ro (.int .i64) o1_1,.own 5,.own 6,.int .i64 o1_4,.int .i64 o1_5],.cells [.own 7,.own 8,.own 9,.own 10,.int .i64 o2_4,.int .i64 o2_5],.arr (.st (.pair (.int .i64) .str)) o3,.arr (.st (.pair (.int .i64) (.int .i64))) o4_y,.arr (.st (.pair (.int .i64) (.int .i64))) o5,.arr (.st (.pair (.int .i64) .str)) o6,.arr (.int .i64) o7,.arr (.int .i64) o8,.arr (.st (.pair (.int .i64) (.int .i64))) o9,.arr (.st (.pair (.int .i64) .str)) o10,.arr (.st (.pair (.int .i64) .str)) o11_y]
theorem fnq13_ok (a : Aq13) (K : AV → List AE.Obj → Ans) : fnE Try.tab envq13 noHint 0 70 22 Try.f22.ntmps Try.f22.results.toList annq13 bq13 (argsq13 a).1 (argsq13 a).2 K = fnq13 a (outq13 a K) := by kernel_rfl
def vFq13 (a : Aq13) (K : AV → List AE.Obj → Ans) : Ans := bindO (fnDq13 a) fun y => outq13 a K y
def Fq13 : List AV → List AE.Obj → (AV → List AE.Obj → Ans) → Ans := fun l H K => bindO (decAq13 l H) fun a => vFq13 a K
theorem Fq13_ok : FuncOk Try.prog 22 Fq13 := func_mkD (hint := noHint) (d := 0) (n := 70) mixed tabOk envq13Ok Try.func22 (bodySome (by kernel_rfl)) (by decide +kernel) annq13_ok decAq13_ok fnq13_ok fnq13_nat
--@ client_Client_Flush_2
noncomputable def envq3 : Env := [(40,.func (altF decAq22 vFq22 Fq23)),(21,.func Fq15),(22,.func Fq13)]
theorem envq3Ok : EnvOk Try.prog envq3 := EnvOk.cons (func_altF Fq22_ok Fq23_ok) (EnvOk.cons Fq15_ok (EnvOk.cons Fq13_ok (EnvOk.nil)))
noncomputable def bq3 : Code := Try.f10.body.getD .skip
noncomputable def annq3 : Ann := .none
theorem annq3_ok : AnnOk Try.prog 52 bq3 annq3 := (annOk_none _ _ _)
abbrev Aq3 := (Int) × (List Int) × (List Int) × (Int) × (Int) × (Int) × (Int) × (List (Int × List UInt8)) × (List (Int × Int)) × (List (Int × Int)) × (List (Int × List UInt8)) × (List Int) × (List Int) × (List (Int × Int)) × (List (Int × List UInt8))
abbrev Yq3 := ((Int) × (Int) × (Int) × (Int) × (Int) × (List (Int × Int))) ⊕ ((Int) × (Int) × (Int) × (Int) × (List (Int × Int)) × (List (Int × List UInt8)))
def fnq3 {β : Type} : Aq3 → (Yq3 → Option β) → Option β := fun (o0_2,o1_0,o1_1,o1_4,o1_5,o2_4,o2_5,o3,o4,o5,o6,o7,o8,o9,o10) exit => (bindO (fnDq15 (o0_2,o1_0,o1_1,o1_4,o1_5,o2_4,o2_5,o3,o4,o5,o6,o7,o8,o9,o10)) (Sum.elim (fun _ => (bindO (fnDq23 (o1_0,o1_1,o1_4,o1_5,o5,o6)) (unP fun r_0_0 => unP fun r_0_1 => unP fun r_1 => unP fun o0_4 o0_5 => (bif r_1 != (0 : Int) then (exit (Sum.inl (r_1,o0_4,o0_5,o2_4,o2_5,o4))) else (bif r_0_1 == (2 : Int) then (bindO (fnDq13 ((↑(List.length o3) : Int),o0_2,o1_0,o1_1,o0_4,o0_5,o2_4,o2_5,o3,o4,o5,o6,o7,o8,o9,o10)) (unP fun o4_2 o11 => (exit (Sum.inr (o0_4,o0_5,o2_4,o2_5,o4_2,o11))))) else (bif r_0_1 == (1 : Int) then (exit (Sum.inl ((0 : Int),o0_4,o0_5,o2_4,o2_5,o4))) else (bif Nat.ble ((List.length o4 + List.length [(r_0_0,(↑(List.length o3) : Int))]) * (16 : Nat)) (140737488355328 : Nat) then (exit (Sum.inl ((0 : Int),o0_4,o0_5,o2_4,o2_5,o4 ++ [(r_0_0,(↑(List.length o3) : Int))]))) else none))))))) (fun _ => (bindO (fnDq22 (o2_4,o2_5,o7,o8,o9,o10)) (unP fun r_0_0 => unP fun r_0_1 => unP fun r_1 => unP fun o0_4 o0_5 => (bif r_1 != (0 : Int) then (exit (Sum.inl (r_1,o1_4,o1_5,o0_4,o0_5,o4))) else (bif r_0_1 == (2 : Int) then (bindO (fnDq13 ((↑(List.length o3) : Int),o0_2,o1_0,o1_1,o1_4,o1_5,o0_4,o0_5,o3,o4,o5,o6,o7,o8,o9,o10)) (unP fun o4_2 o11 => (exit (Sum.inr (o1_4,o1_5,o0_4,o0_5,o4_2,o11))))) else (bif r_0_1 == (1 : Int) then (exit (Sum.inl ((0 : Int),o1_4,o1_5,o0_4,o0_5,o4))) else (bif Nat.ble ((List.length o4 + List.length [(r_0_0,(↑(List.length o3) : Int))]) * (16 : Nat)) (140737488355328 : Nat) then (exit (Sum.inl ((0 : Int),o1_4,o1_5,o0_4,o0_5,o4 ++ [(r_0_0,(↑(List.length o3) : Int))]))) else none)))))))))
def fnDq3 (a : Aq3) : Option Yq3 := fnq3 a some
theorem fnq3_nat (a : Aq3) (k : Yq3 → Ans) : fnq3 a k = bindO (fnDq3 a) k := by
  obtain ⟨o0_2,o1_0,o1_1,o1_4,o1_5,o2_4,o2_5,o3,o4,o5,o6,o7,o8,o9,o10⟩ := a
  simp only [fnDq3,fnq3,bindO_cond,bindO_assoc,bindO_none,bindO_pure,bindO_elim,bindO_unP,bindO_empty]
def argsq3 : Aq3 → List AV × List AE.Obj := fun (o0_2,o1_0,o1_1,o1_4,o1_5,o2_4,o2_5,o3,o4,o5,o6,o7,o8,o9,o10) => ([.ptr 0 0],[.cells [.ifc 27 (.ptr 1 0),.ifc 27 (.ptr 2 0),.int .i64 o0_2,.own 3,.own 4],.cells [.ro (.int .i64) o1_0,.ro (.int .i64) o1_1,.own 5,.own 6,.int .i64 o1_4,.int .i64 o1_5],.cells [.own 7,.own 8,.own 9,.own 10,.int .i64 o2_4,.int .i64 o2_5],.arr (.st (.pair (.int .i64) .str)) o3,.arr (.st (.pair (.int .i64) (.int .i64))) o4,.arr (.st (.pair (.int .i64) (.int .i64))) o5,.arr (.st (.pair (.int .i64) .str)) o6,.arr (.int .i64) o7,.arr (.int .i64) o8,.arr (.st (.pair (.int .i64) (.int .i64))) o9,.arr (.st (.pair (.int .i64) .str)) o10])
def decPAq3 (l : List AV) (H : List AE.Obj) : Option {a : Aq3 // (l,H) = argsq3 a} := match l,H with
  | [.ptr 0 0],[.cells [.ifc 27 (.ptr 1 0),.ifc 27 (.ptr 2 0),.int .i64 o0_2,.own 3,.own 4],.cells [.ro (.int .i64) o1_0,.ro (.int .i64) o1_1,.own 5,.own 6,.int .i64 o1_4,.int .i64 o1_5],.cells [.own 7,.own 8,.own 9,.own 10,.int .i64 o2_4,.int .i64 o2_5],.arr (.st (.pair (.int .i64) .str)) o3,.arr (.st (.pair (.int .i64) (.int .i64))) o4,.arr (.st (.pair (.int .i64) (.int .i64))) o5,.arr (.st (.pair (.int .i64) .str)) o6,.arr (.int .i64) o7,.arr (.int .i64) o8,.arr (.st (.pair (.int .i64) (.int .i64))) o9,.arr (.st (.pair (.int .i64) .str)) o10] => some ⟨(o0_2,o1_0,o1_1,o1_4,o1_5,o2_4,o2_5,o3,o4,o5,o6,o7,o8,o9,o10),rfl⟩
  | _,_ => none
def decAq3 (l : List AV) (H : List AE.Obj) : Option Aq3 := pk (decPAq3 l H)
theorem decAq3_ok (l : List AV) (H : List AE.Obj) (a : Aq3) (h : decAq3 l H = some a) : (l,H) = argsq3 a := pk_ok (o := decPAq3 l H) h
def outq3 : Aq3 → (AV → List AE.Obj → Ans) → Yq3 → Ans := fun (o0_2,o1_0,o1_1,o1_4,o1_5,o2_4,o2_5,o3,o4,o5,o6,o7,o8,o9,o10) K => (Sum.elim (unP fun r_1_y => unP fun o1_4_y => unP fun o1_5_y => unP fun o2_4_y => unP fun o2_5_y o4_y => K (.tup [.bool (false),.int .i64 r_1_y]) [.cells [.ifc 27 (.ptr 1 0),.ifc 27 (.ptr 2 0),.int .i64 o0_2,.own 3,.own 4],.cells [.ro (.int .i64) o1_0,.ro (.int .i64) o1_1,.own 5,.own 6,.int .i64 o1_4_y,.int .i64 o1_5_y],.cells [.own 7,.own 8,.own 9,.own 10,.int .i64 o2_4_y,.int .i64 o2_5_y],.arr (.st (.pair (.int .i64) .str)) o3,.arr (.st (.pair (.int .i64) (.int .i64))) o4_y,.arr (.st (.pair (.int .i64) (.int .i64))) o5,.arr (.st (.pair (.int .i64) .str)) o6,.arr (.int .i64) o7,.arr (.int .i64) o8,.arr (.st (.pair (.int .i64) (.int .i64))) o9,.arr (.st (.pair (.int .i64) .str)) o10]) (unP fun o1_4_y => unP fun o1_5_y => unP fun o2_4_y => unP fun o2_5_y => unP fun o4_y o11_y => K (.tup [.bool (true),.int .i64 (0)]) [.cells [.ifc 27 (.ptr 1 0),.ifc 27 (.ptr 2 0),.int .i64 o0_2,.own 11,.own 12],.cells [.ro (.int .i64) o1_0,.ro (.int .i64) o1_1,.own 5,.own 6,.int .i64 o1_4_y,.int .i64 o1_5_y],.cells [.own 7,.own 8,.own 9,.own 10,.int .i64 o2_4_y,.int .i64 o2_5_y],.arr (.st (.pair (.int .i64) .str)) o3,.arr (.st (.pair (.int .i64) (.int .i64))) o4_y,.arr (.st (.pair (.int .i64) (.int .i64))) o5,.arr (.st (.pair (.int .i64) .str)) o6,.arr (.int .i64) o7,.arr (.int .i64) o8,.arr (.st (.pair (.int .i64) (.int .i64))) o9,.arr (.st (.pair (.int .i64) .str)) o10,.arr (.st (.pair (.int .i64) .str)) o11_y,.arr (.st (.pair (.int .i64) (.int .i64))) ([])]))
theorem fnq3_ok (a : Aq3) (K : AV → List AE.Obj → Ans) : fnE Try.tab envq3 noHint 0 70 10 Try.f10.ntmps Try.f10.results.toList annq3 bq3 (argsq3 a).1 (argsq3 a).2 K = fnq3 a (outq3 a K) := by kernel_rfl
def vFq3 (a : Aq3) (K : AV → List AE.Obj → Ans) : Ans := bindO (fnDq3 a) fun y => outq3 a K y
def Fq3 : List AV → List AE.Obj → (AV → List AE.Obj → Ans) → Ans := fun l H K => bindO (decAq3 l H) fun a => vFq3 a K
theorem Fq3_ok : FuncOk Try.prog 10 Fq3 := func_mkD (hint := noHint) (d := 0) (n := 70) mixed tabOk envq3Ok Try.func10 (bodySome (by kernel_rfl)) (by decide +kernel) annq3_ok decAq3_ok fnq3_ok fnq3_nat
--@ ref44_Client_Flushed
noncomputable def envq32 : Env := []
theorem envq32Ok : EnvOk Try.prog envq32 := EnvOk.nil
noncomputable def bq32 : Code := Try.f17.body.getD .skip
noncomputable def Lq32_n0 : Code := codeAt [1,1,0] bq32
noncomputable def annLq32_n0 : Ann := .none
theorem annLq32_n0_ok : AnnOk Try.prog 36 Lq32_n0 annLq32_n0 := (annOk_none _ _ _)
abbrev Iq32_n0 := (Nat) × (Nat) × (List (Int × List UInt8)) × (List (Int × Int)) × (Int) × (Int)
abbrev Yq32_n0 := (List (Int × Int))
def Sq32_n0 : Iq32_n0 → St := fun (o0_0,o0_0_2,o1,o2,o3_0,o3_1) => { env := [(0,.ptr 0 0),(3,.ptr 3 0)],stk := [[(0,.ptr 0 0)]],H := [.cells [.sub 1 o0_0 o0_0_2 2,.own 2],.arr (.st (.pair (.int .i64) .str)) o1,.arr (.st (.pair (.int .i64) (.int .i64))) o2,.cells [.int .i64 o3_0,.int .i64 o3_1]],blk := 69632 }
def decPq32_n0 (s : St) : Option {x : Iq32_n0 // s = Sq32_n0 x} := match s with
  | { env := [(0,.ptr 0 0),(3,.ptr 3 0)],stk := [[(0,.ptr 0 0)]],H := [.cells [.sub 1 o0_0 o0_0_2 2,.own 2],.arr (.st (.pair (.int .i64) .str)) o1,.arr (.st (.pair (.int .i64) (.int .i64))) o2,.cells [.int .i64 o3_0,.int .i64 o3_1]],blk := 69632 } => some ⟨(o0_0,o0_0_2,o1,o2,o3_0,o3_1),rfl⟩
  | _ => none
def decq32_n0 (s : St) : Option Iq32_n0 := pk (decPq32_n0 s)
theorem decq32_n0_ok (s : St) (x : Iq32_n0) (h : decq32_n0 s = some x) : s = Sq32_n0 x := pk_ok (o := decPq32_n0 s) h
def outq32_n0 : Iq32_n0 → (Ex → St → Ans) → Yq32_n0 → Ans := fun (o0_0,o0_0_2,o1,o2,o3_0,o3_1) K => fun o3_y => K (Ex.norm) { env := [],stk := [[(0,.ptr 0 0)]],H := [.cells [.sub 1 o0_0 o0_0_2 2,.own 3],.arr (.st (.pair (.int .i64) .str)) o1,.arr (.st (.pair (.int .i64) (.int .i64))) o2,.arr (.st (.pair (.int .i64) (.int .i64))) o3_y],blk := 69632 }
def nodeq32_n0 {β : Type} : Iq32_n0 → (Yq32_n0 → Option β) → Option β := fun (o0_0,o0_0_2,o1,o2,o3_0,o3_1) exit => (bif Nat.ble (((0 : Nat) + List.length o2) * (16 : Nat)) (140737488355328 : Nat) then (bif Nat.ble ((List.length o2 + List.length [(o3_0,(↑o0_0_2 : Int))]) * (16 : Nat)) (140737488355328 : Nat) then (exit (o2 ++ [(o3_0,(↑o0_0_2 : Int))])) else none) else none)
def nodeDq32_n0 (i : Iq32_n0) : Option Yq32_n0 := nodeq32_n0 i some
theorem nodeq32_n0_nat (i : Iq32_n0) (k : Yq32_n0 → Ans) : nodeq32_n0 i k = bindO (nodeDq32_n0 i) k := by
  obtain ⟨o0_0,o0_0_2,o1,o2,o3_0,o3_1⟩ := i
  simp only [nodeDq32_n0,nodeq32_n0,bindO_cond,bindO_assoc,bindO_none,bindO_pure,bindO_elim,bindO_unP,bindO_empty]
noncomputable def nodeXq32_n0 {β : Type} : Iq32_n0 → (Yq32_n0 → Option β) → Option β := fun (o0_0,o0_0_2,o1,o2,o3_0,o3_1) exit => (agree (agree (bif Nat.ble (((0 : Nat) + List.length o2) * (16 : Nat)) (140737488355328 : Nat) then (bif Nat.ble ((List.length o2 + List.length [(o3_0,(↑o0_0_2 : Int))]) * (16 : Nat)) (140737488355328 : Nat) then (exit (o2 ++ [(o3_0,(↑o0_0_2 : Int))])) else none) else none) (bif Nat.ble (((0 : Nat) + List.length o2) * (16 : Nat)) (140737488355328 : Nat) then (bif Nat.ble ((List.length o2 + List.length [(o3_0,(↑o0_0_2 : Int))]) * (16 : Nat)) (140737488355328 : Nat) then (exit (o2 ++ [(o3_0,(↑o0_0_2 : Int))])) else none) else none)) (bif Nat.ble (((0 : Nat) + List.length o2) * (16 : Nat)) (140737488355328 : Nat) then (bif Nat.ble ((List.length o2 + List.length [(o3_0,(↑o0_0_2 : Int))]) * (16 : Nat)) (140737488355328 : Nat) then (exit (o2 ++ [(o3_0,(↑o0_0_2 : Int))])) else none) else none))
theorem nodeXq32_n0_eq : ∀ (i : Iq32_n0) (exit : Yq32_n0 → Ans),nodeXq32_n0 i exit = nodeq32_n0 i exit := by
  rintro ⟨o0_0,o0_0_2,o1,o2,o3_0,o3_1⟩ exit
  simp only [nodeXq32_n0,nodeq32_n0,agree_self]
theorem nodeq32_n0_ok (i : Iq32_n0) (K : Ex → St → Ans) : codeI Try.tab envq32 noHint (codeD Try.tab envq32 noHint 0 64) 70 36 annLq32_n0 Lq32_n0 (weakP 3 (exk [] [4] []) K) (Sq32_n0 i) = nodeq32_n0 i (outq32_n0 i K) := (show _ = nodeXq32_n0 i _ from by kernel_rfl).trans (nodeXq32_n0_eq _ _)
theorem GNq32_n0_ok : CSum Try.prog 36 Lq32_n0 (sumN decq32_n0 nodeDq32_n0 outq32_n0) := csum_node mixed tabOk envq32Ok 3 (exk [] [4] []) annLq32_n0_ok decq32_n0_ok nodeq32_n0_ok nodeq32_n0_nat
noncomputable def Gq32_n0 : (Ex → St → Ans) → St → Ans := (sumN decq32_n0 nodeDq32_n0 outq32_n0)
theorem Gq32_n0_ok : CSum Try.prog 36 Lq32_n0 Gq32_n0 := GNq32_n0_ok
noncomputable def annq32 : Ann := (.seq .none (.seq .none (.seq (.cut 3 [0,3] Gq32_n0) .none)))
theorem annq32_ok : AnnOk Try.prog 36 bq32 annq32 := ⟨(annOk_none _ _ _),⟨(annOk_none _ _ _),⟨Gq32_n0_ok,(annOk_none _ _ _)⟩⟩⟩
abbrev Aq32 := (Int) × (Int) × (Nat) × (Nat) × (List (Int × List UInt8)) × (List (Int × Int))
abbrev Yq32 := (Unit) ⊕ (Unit) ⊕ ((List (Int × Int)))
def fnq32 {β : Type} : Aq32 → (Yq32 → Option β) → Option β := fun (a1_0,a1_1,o0_0,o0_0_2,o1,o2) exit => (bif a1_1 == (2 : Int) then (exit (Sum.inl ())) else (bif a1_1 == (1 : Int) then (exit (Sum.inr (Sum.inl ()))) else (bindO (nodeDq32_n0 (o0_0,o0_0_2,o1,o2,a1_0,a1_1)) fun o3 => (exit (Sum.inr (Sum.inr (o3)))))))
def fnDq32 (a : Aq32) : Option Yq32 := fnq32 a some
theorem fnq32_nat (a : Aq32) (k : Yq32 → Ans) : fnq32 a k = bindO (fnDq32 a) k := by
  obtain ⟨a1_0,a1_1,o0_0,o0_0_2,o1,o2⟩ := a
  simp only [fnDq32,fnq32,bindO_cond,bindO_assoc,bindO_none,bindO_pure,bindO_elim,bindO_unP,bindO_empty]
def argsq32 : Aq32 → List AV × List AE.Obj := fun (a1_0,a1_1,o0_0,o0_0_2,o1,o2) => ([.ptr 0 0,.agg [.int .i64 a1_0,.int .i64 a1_1]],[.cells [.sub 1 o0_0 o0_0_2 2,.own 2],.arr (.st (.pair (.int .i64) .str)) o1,.arr (.st (.pair (.int .i64) (.int .i64))) o2])
def decPAq32 (l : List AV) (H : List AE.Obj) : Option {a : Aq32 // (l,H) = argsq32 a} := match l,H with
  | [.ptr 0 0,.agg [.int .i64 a1_0,.int .i64 a1_1]],[.cells [.sub 1 o0_0 o0_0_2 2,.own 2],.arr (.st (.pair (.int .i64) .str)) o1,.arr (.st (.pair (.int .i64) (.int .i64))) o2] => some ⟨(a1_0,a1_1,o0_0,o0_0_2,o1,o2),rfl⟩
  | _,_ => none
def decAq32 (l : List AV) (H : List AE.Obj) : Option Aq32 := pk (decPAq32 l H)
theorem decAq32_ok (l : List AV) (H : List AE.Obj) (a : Aq32) (h : decAq32 l H = some a) : (l,H) = argsq32 a := pk_ok (o := decPAq32 l H) h
def outq32 : Aq32 → (AV → List AE.Obj → Ans) → Yq32 → Ans := fun (a1_0,a1_1,o0_0,o0_0_2,o1,o2) K => (Sum.elim (fun _ => K (.bool (true)) [.cells [.own 3,.own 4],.arr (.st (.pair (.int .i64) .str)) o1,.arr (.st (.pair (.int .i64) (.int .i64))) o2,.arr (.st (.pair (.int .i64) .str)) ([]),.arr (.st (.pair (.int .i64) (.int .i64))) ([])]) ((Sum.elim (fun _ => K (.bool (false)) [.cells [.sub 1 o0_0 o0_0_2 2,.own 2],.arr (.st (.pair (.int .i64) .str)) o1,.arr (.st (.pair (.int .i64) (.int .i64))) o2]) (fun o3_y => K (.bool (false)) [.cells [.sub 1 o0_0 o0_0_2 2,.own 3],.arr (.st (.pair (.int .i64) .str)) o1,.arr (.st (.pair (.int .i64) (.int .i64))) o2,.arr (.st (.pair (.int .i64) (.int .i64))) o3_y]))))
theorem fnq32_ok (a : Aq32) (K : AV → List AE.Obj → Ans) : fnE Try.tab envq32 noHint 0 70 17 Try.f17.ntmps Try.f17.results.toList annq32 bq32 (argsq32 a).1 (argsq32 a).2 K = fnq32 a (outq32 a K) := by kernel_rfl
def vFq32 (a : Aq32) (K : AV → List AE.Obj → Ans) : Ans := bindO (fnDq32 a) fun y => outq32 a K y
def Fq32 : List AV → List AE.Obj → (AV → List AE.Obj → Ans) → Ans := fun l H K => bindO (decAq32 l H) fun a => vFq32 a K
theorem Fq32_ok : FuncOk Try.prog 17 Fq32 := func_mkD (hint := noHint) (d := 0) (n := 70) mixed tabOk envq32Ok Try.func17 (bodySome (by kernel_rfl)) (by decide +kernel) annq32_ok decAq32_ok fnq32_ok fnq32_nat
--@ law44_Tape_Events
noncomputable def envq20 : Env := []
theorem envq20Ok : EnvOk Try.prog envq20 := EnvOk.nil
noncomputable def bq20 : Code := Try.f39.body.getD .skip
noncomputable def annq20 : Ann := .none
theorem annq20_ok : AnnOk Try.prog 12 bq20 annq20 := (annOk_none _ _ _)
abbrev Aq20 := (List Int) × (List Int) × (Int) × (Int) × (List (Int × Int)) × (List (Int × List UInt8))
abbrev Yq20 := Unit
def fnq20 {β : Type} : Aq20 → (Yq20 → Option β) → Option β := fun (o0_0,o0_1,o0_4,o0_5,o1,o2) exit => (exit ())
def fnDq20 (a : Aq20) : Option Yq20 := fnq20 a some
theorem fnq20_nat (a : Aq20) (k : Yq20 → Ans) : fnq20 a k = bindO (fnDq20 a) k := by
  obtain ⟨o0_0,o0_1,o0_4,o0_5,o1,o2⟩ := a
  simp only [fnDq20,fnq20,bindO_cond,bindO_assoc,bindO_none,bindO_pure,bindO_elim,bindO_unP,bindO_empty]
def argsq20 : Aq20 → List AV × List AE.Obj := fun (o0_0,o0_1,o0_4,o0_5,o1,o2) => ([.ptr 0 0],[.cells [.ro (.int .i64) o0_0,.ro (.int .i64) o0_1,.own 1,.own 2,.int .i64 o0_4,.int .i64 o0_5],.arr (.st (.pair (.int .i64) (.int .i64))) o1,.arr (.st (.pair (.int .i64) .str)) o2])
def decPAq20 (l : List AV) (H : List AE.Obj) : Option {a : Aq20 // (l,H) = argsq20 a} := match l,H with
  | [.ptr 0 0],[.cells [.ro (.int .i64) o0_0,.ro (.int .i64) o0_1,.own 1,.own 2,.int .i64 o0_4,.int .i64 o0_5],.arr (.st (.pair (.int .i64) (.int .i64))) o1,.arr (.st (.pair (.int .i64) .str)) o2] => some ⟨(o0_0,o0_1,o0_4,o0_5,o1,o2),rfl⟩
  | _,_ => none
def decAq20 (l : List AV) (H : List AE.Obj) : Option Aq20 := pk (decPAq20 l H)
theorem decAq20_ok (l : List AV) (H : List AE.Obj) (a : Aq20) (h : decAq20 l H = some a) : (l,H) = argsq20 a := pk_ok (o := decPAq20 l H) h
def outq20 : Aq20 → (AV → List AE.Obj → Ans) → Yq20 → Ans := fun (o0_0,o0_1,o0_4,o0_5,o1,o2) K => fun _ => K (.own 1) [.cells [.ro (.int .i64) o0_0,.ro (.int .i64) o0_1,.own 3,.own 2,.int .i64 o0_4,.int .i64 o0_5],.arr (.st (.pair (.int .i64) (.int .i64))) o1,.arr (.st (.pair (.int .i64) .str)) o2,.arr (.st (.pair (.int .i64) (.int .i64))) ([])]
theorem fnq20_ok (a : Aq20) (K : AV → List AE.Obj → Ans) : fnE Try.tab envq20 noHint 0 70 39 Try.f39.ntmps Try.f39.results.toList annq20 bq20 (argsq20 a).1 (argsq20 a).2 K = fnq20 a (outq20 a K) := by kernel_rfl
def vFq20 (a : Aq20) (K : AV → List AE.Obj → Ans) : Ans := bindO (fnDq20 a) fun y => outq20 a K y
def Fq20 : List AV → List AE.Obj → (AV → List AE.Obj → Ans) → Ans := fun l H K => bindO (decAq20 l H) fun a => vFq20 a K
theorem Fq20_ok : FuncOk Try.prog 39 Fq20 := func_mkD (hint := noHint) (d := 0) (n := 70) mixed tabOk envq20Ok Try.func39 (bodySome (by kernel_rfl)) (by decide +kernel) annq20_ok decAq20_ok fnq20_ok fnq20_nat
--@ client_Client_come
noncomputable def envq11 : Env := [(22,.func Fq13)]
theorem envq11Ok : EnvOk Try.prog envq11 := EnvOk.cons Fq13_ok (EnvOk.nil)
noncomputable def bq11 : Code := Try.f23.body.getD .skip
noncomputable def Lq11_n0 : Code := codeAt [1,0,1,0,0] bq11
noncomputable def annLq11_n0 : Ann := .at 11 [0,3,11,12,13] (.loop .none)
theorem annLq11_n0_ok : AnnOk Try.prog 51 (.loop Lq11_n0) annLq11_n0 := annOk_at (annOk_none _ _ _)
abbrev Iq11_n0 := (Int) × (Int) × (List Int) × (List Int) × (Int) × (Int) × (Int) × (Int) × (List (Int × List UInt8)) × (List (Int × Int)) × (List (Int × Int)) × (List (Int × List UInt8)) × (List Int) × (List Int) × (List (Int × Int)) × (List (Int × List UInt8)) × (Int) × (Int)
abbrev Yq11_n0 := ((List (Int × Int))) ⊕ ((List (Int × List UInt8)) × (List (Int × Int))) ⊕ (Unit)
abbrev Vq11_n0 := (Int)
def Sq11_n0 : Iq11_n0 → Vq11_n0 → St := fun (t12,o0_2,o1_0,o1_1,o1_4,o1_5,o2_4,o2_5,o3,o4,o5,o6,o7,o8,o9,o10,o11_0,o11_1) t13 => { env := [(0,.ptr 0 0),(3,.ptr 11 0),(11,.own 4),(12,.int .i64 t12),(13,.int .i64 t13)],stk := [[(0,.ptr 0 0),(1,.ptr 1 0),(2,.ptr 2 0)]],H := [.cells [.ifc 27 (.ptr 1 0),.ifc 27 (.ptr 2 0),.int .i64 o0_2,.own 3,.own 4],.cells [.ro (.int .i64) o1_0,.ro (.int .i64) o1_1,.own 5,.own 6,.int .i64 o1_4,.int .i64 o1_5],.cells [.own 7,.own 8,.own 9,.own 10,.int .i64 o2_4,.int .i64 o2_5],.arr (.st (.pair (.int .i64) .str)) o3,.arr (.st (.pair (.int .i64) (.int .i64))) o4,.arr (.st (.pair (.int .i64) (.int .i64))) o5,.arr (.st (.pair (.int .i64) .str)) o6,.arr (.int .i64) o7,.arr (.int .i64) o8,.arr (.st (.pair (.int .i64) (.int .i64))) o9,.arr (.st (.pair (.int .i64) .str)) o10,.cells [.int .i64 o11_0,.int .i64 o11_1]],blk := 94208 }
def decPq11_n0 (s : St) : Option {x : Iq11_n0 × Vq11_n0 // s = Sq11_n0 x.1 x.2} := match s with
  | { env := [(0,.ptr 0 0),(3,.ptr 11 0),(11,.own 4),(12,.int .i64 t12),(13,.int .i64 t13)],stk := [[(0,.ptr 0 0),(1,.ptr 1 0),(2,.ptr 2 0)]],H := [.cells [.ifc 27 (.ptr 1 0),.ifc 27 (.ptr 2 0),.int .i64 o0_2,.own 3,.own 4],.cells [.ro (.int .i64) o1_0,.ro (.int .i64) o1_1,.own 5,.own 6,.int .i64 o1_4,.int .i64 o1_5],.cells [.own 7,.own 8,.own 9,.own 10,.int .i64 o2_4,.int .i64 o2_5],.arr (.st (.pair (.int .i64) .str)) o3,.arr (.st (.pair (.int .i64) (.int .i64))) o4,.arr (.st (.pair (.int .i64) (.int .i64))) o5,.arr (.st (.pair (.int .i64) .str)) o6,.arr (.int .i64) o7,.arr (.int .i64) o8,.arr (.st (.pair (.int .i64) (.int .i64))) o9,.arr (.st (.pair (.int .i64) .str)) o10,.cells [.int .i64 o11_0,.int .i64 o11_1]],blk := 94208 } => some ⟨((t12,o0_2,o1_0,o1_1,o1_4,o1_5,o2_4,o2_5,o3,o4,o5,o6,o7,o8,o9,o10,o11_0,o11_1),t13),rfl⟩
  | _ => none
def decq11_n0 (s : St) : Option (Iq11_n0 × Vq11_n0) := pk (decPq11_n0 s)
theorem decq11_n0_ok (s : St) (x : Iq11_n0 × Vq11_n0) (h : decq11_n0 s = some x) : s = Sq11_n0 x.1 x.2 := pk_ok (o := decPq11_n0 s) h
def outq11_n0 : Iq11_n0 → (Ex → St → Ans) → Yq11_n0 → Ans := fun (t12,o0_2,o1_0,o1_1,o1_4,o1_5,o2_4,o2_5,o3,o4,o5,o6,o7,o8,o9,o10,o11_0,o11_1) K => (Sum.elim (fun o11_y => K (Ex.ret) { env := [(4,.bool (false))],stk := [[(0,.ptr 0 0),(1,.ptr 1 0),(2,.ptr 2 0)]],H := [.cells [.ifc 27 (.ptr 1 0),.ifc 27 (.ptr 2 0),.int .i64 o0_2,.own 3,.own 11],.cells [.ro (.int .i64) o1_0,.ro (.int .i64) o1_1,.own 5,.own 6,.int .i64 o1_4,.int .i64 o1_5],.cells [.own 7,.own 8,.own 9,.own 10,.int .i64 o2_4,.int .i64 o2_5],.arr (.st (.pair (.int .i64) .str)) o3,.arr (.st (.pair (.int .i64) (.int .i64))) o4,.arr (.st (.pair (.int .i64) (.int .i64))) o5,.arr (.st (.pair (.int .i64) .str)) o6,.arr (.int .i64) o7,.arr (.int .i64) o8,.arr (.st (.pair (.int .i64) (.int .i64))) o9,.arr (.st (.pair (.int .i64) .str)) o10,.arr (.st (.pair (.int .i64) (.int .i64))) o11_y],blk := 94209 }) ((Sum.elim (unP fun o11_y o12_y => K (Ex.ret) { env := [(4,.bool (true))],stk := [[(0,.ptr 0 0),(1,.ptr 1 0),(2,.ptr 2 0)]],H := [.cells [.ifc 27 (.ptr 1 0),.ifc 27 (.ptr 2 0),.int .i64 o0_2,.own 11,.own 12],.cells [.ro (.int .i64) o1_0,.ro (.int .i64) o1_1,.own 5,.own 6,.int .i64 o1_4,.int .i64 o1_5],.cells [.own 7,.own 8,.own 9,.own 10,.int .i64 o2_4,.int .i64 o2_5],.arr (.st (.pair (.int .i64) .str)) o3,.arr (.st (.pair (.int .i64) (.int .i64))) o4,.arr (.st (.pair (.int .i64) (.int .i64))) o5,.arr (.st (.pair (.int .i64) .str)) o6,.arr (.int .i64) o7,.arr (.int .i64) o8,.arr (.st (.pair (.int .i64) (.int .i64))) o9,.arr (.st (.pair (.int .i64) .str)) o10,.arr (.st (.pair (.int .i64) .str)) o11_y,.arr (.st (.pair (.int .i64) (.int .i64))) o12_y],blk := 94209 }) (fun _ => K (Ex.exit 0) { env := [],stk := [[(0,.ptr 0 0),(1,.ptr 1 0),(2,.ptr 2 0)]],H := [.cells [.ifc 27 (.ptr 1 0),.ifc 27 (.ptr 2 0),.int .i64 o0_2,.own 3,.own 4],.cells [.ro (.int .i64) o1_0,.ro (.int .i64) o1_1,.own 5,.own 6,.int .i64 o1_4,.int .i64 o1_5],.cells [.own 7,.own 8,.own 9,.own 10,.int .i64 o2_4,.int .i64 o2_5],.arr (.st (.pair (.int .i64) .str)) o3,.arr (.st (.pair (.int .i64) (.int .i64))) o4,.arr (.st (.pair (.int .i64) (.int .i64))) o5,.arr (.st (.pair (.int .i64) .str)) o6,.arr (.int .i64) o7,.arr (.int .i64) o8,.arr (.st (.pair (.int .i64) (.int .i64))) o9,.arr (.st (.pair (.int .i64) .str)) o10],blk := 94208 }))))
def stepq11_n0 {β : Type} : Iq11_n0 → Vq11_n0 → (Vq11_n0 → Option β) → (Yq11_n0 → Option β) → Option β := fun (t12,o0_2,o1_0,o1_1,o1_4,o1_5,o2_4,o2_5,o3,o4,o5,o6,o7,o8,o9,o10,o11_0,o11_1) t13 next exit => (bif decide (t13 < t12) then (bif inR t13 (List.length o4) then (bindO (o4[Int.toNat t13]?) fun x => (bif x.fst != o11_0 then (next (IntKind.wrap .i64 (t13 + (1 : Int)))) else (bif inR t13 (List.length o4 + (1 : Nat)) then (bif inR (IntKind.wrap .i64 (t13 + (1 : Int))) (List.length o4 + (1 : Nat)) then (bindO (bif Nat.ble ((0 : Nat) + (Int.toNat t13 - (0 : Nat))) (List.length o4) then some (List.take (Int.toNat t13 - (0 : Nat)) (List.drop (0 : Nat) o4)) else none) fun x_2 => (bif Nat.ble (((0 : Nat) + List.length x_2) * (16 : Nat)) (140737488355328 : Nat) then (bindO (bif Nat.ble (Int.toNat (IntKind.wrap .i64 (t13 + (1 : Int))) + (List.length o4 - Int.toNat (IntKind.wrap .i64 (t13 + (1 : Int))))) (List.length o4) then some (List.take (List.length o4 - Int.toNat (IntKind.wrap .i64 (t13 + (1 : Int)))) (List.drop (Int.toNat (IntKind.wrap .i64 (t13 + (1 : Int)))) o4)) else none) fun x_3 => (bif Nat.ble ((List.length x_2 + List.length x_3) * (16 : Nat)) (140737488355328 : Nat) then (bif o11_1 != (2 : Int) then (exit (Sum.inl (x_2 ++ x_3))) else (bindO (fnDq13 (x.snd,o0_2,o1_0,o1_1,o1_4,o1_5,o2_4,o2_5,o3,x_2 ++ x_3,o5,o6,o7,o8,o9,o10)) (unP fun o4_2 o11 => (exit (Sum.inr (Sum.inl (o11,o4_2))))))) else none)) else none)) else none) else none))) else none) else (exit (Sum.inr (Sum.inr ()))))
def stepDq11_n0 (i : Iq11_n0) (v : Vq11_n0) : Option (Vq11_n0 ⊕ Yq11_n0) := stepq11_n0 i v (fun v => some (.inl v)) (fun y => some (.inr y))
theorem stepq11_n0_nat (i : Iq11_n0) (v : Vq11_n0) (next : Vq11_n0 → Ans) (exit : Yq11_n0 → Ans) : stepq11_n0 i v next exit = bindO (stepDq11_n0 i v) (Sum.elim next exit) := by
  obtain ⟨t12,o0_2,o1_0,o1_1,o1_4,o1_5,o2_4,o2_5,o3,o4,o5,o6,o7,o8,o9,o10,o11_0,o11_1⟩ := i
  obtain z := v
  simp only [stepDq11_n0,stepq11_n0,bindO_cond,bindO_assoc,bindO_none,bindO_pure,bindO_elim,bindO_unP,bindO_empty,Sum.elim_inl,Sum.elim_inr]
theorem stepq11_n0_ok (n : Nat) (i : Iq11_n0) (v : Vq11_n0) (K : Ex → St → Ans) : codeI Try.tab envq11 noHint (codeD Try.tab envq11 noHint 0 64) (n+1) 51 annLq11_n0 (.loop Lq11_n0) (weakP 11 (exk [] [4] [(0,[])]) K) (Sq11_n0 i v) = stepq11_n0 i v (fun v' => codeI Try.tab envq11 noHint (codeD Try.tab envq11 noHint 0 64) n 51 annLq11_n0 (.loop Lq11_n0) (weakP 11 (exk [] [4] [(0,[])]) K) (Sq11_n0 i v')) (fun y => outq11_n0 i K y) := by kernel_rfl
theorem GNq11_n0_ok : CSum Try.prog 51 (.loop Lq11_n0) (sumL decq11_n0 stepDq11_n0 outq11_n0) := csum_loop mixed tabOk envq11Ok 11 (exk [] [4] [(0,[])]) annLq11_n0_ok decq11_n0_ok stepq11_n0_ok stepq11_n0_nat
noncomputable def Gq11_n0 : (Ex → St → Ans) → St → Ans := (sumL decq11_n0 stepDq11_n0 outq11_n0)
theorem Gq11_n0_ok : CSum Try.prog 51 (.loop Lq11_n0) Gq11_n0 := GNq11_n0_ok
noncomputable def annq11 : Ann := (.seq .none (.seq (.seq .none (.block (.cut 11 [0,3,11,12,13] Gq11_n0))) .none))
theorem annq11_ok : AnnOk Try.prog 51 bq11 annq11 := ⟨(annOk_none _ _ _),⟨⟨(annOk_none _ _ _),Gq11_n0_ok⟩,(annOk_none _ _ _)⟩⟩
abbrev Aq11 := (Int) × (Int) × (Int) × (List Int) × (List Int) × (Int) × (Int) × (Int) × (Int) × (List (Int × List UInt8)) × (List (Int × Int)) × (List (Int × Int)) × (List (Int × List UInt8)) × (List Int) × (List Int) × (List (Int × Int)) × (List (Int × List UInt8))
abbrev Yq11 := ((List (Int × Int))) ⊕ ((List (Int × List UInt8)) × (List (Int × Int))) ⊕ (Unit)
def fnq11 {β : Type} : Aq11 → (Yq11 → Option β) → Option β := fun (a1_0,a1_1,o0_2,o1_0,o1_1,o1_4,o1_5,o2_4,o2_5,o3,o4,o5,o6,o7,o8,o9,o10) exit => (bindO (loopD (stepDq11_n0 ((↑(List.length o4) : Int),o0_2,o1_0,o1_1,o1_4,o1_5,o2_4,o2_5,o3,o4,o5,o6,o7,o8,o9,o10,a1_0,a1_1)) FUEL ((0 : Int))) (Sum.elim (fun o11 => (exit (Sum.inl (o11)))) ((Sum.elim (unP fun o11 o12 => (exit (Sum.inr (Sum.inl (o11,o12))))) (fun _ => (exit (Sum.inr (Sum.inr ()))))))))
def fnDq11 (a : Aq11) : Option Yq11 := fnq11 a some
theorem fnq11_nat (a : Aq11) (k : Yq11 → Ans) : fnq11 a k = bindO (fnDq11 a) k := by
  obtain ⟨a1_0,a1_1,o0_2,o1_0,o1_1,o1_4,o1_5,o2_4,o2_5,o3,o4,o5,o6,o7,o8,o9,o10⟩ := a
  simp only [fnDq11,fnq11,bindO_cond,bindO_assoc,bindO_none,bindO_pure,bindO_elim,bindO_unP,bindO_empty]
def argsq11 : Aq11 → List AV × List AE.Obj := fun (a1_0,a1_1,o0_2,o1_0,o1_1,o1_4,o1_5,o2_4,o2_5,o3,o4,o5,o6,o7,o8,o9,o10) => ([.ptr 0 0,.agg [.int .i64 a1_0,.int .i64 a1_1]],[.cells [.ifc 27 (.ptr 1 0),.ifc 27 (.ptr 2 0),.int .i64 o0_2,.own 3,.own 4],.cells [.ro (.int .i64) o1_0,.ro (.int .i64) o1_1,.own 5,.own 6,.int .i64 o1_4,.int .i64 o1_5],.cells [.own 7,.own 8,.own 9,.own 10,.int .i64 o2_4,.int .i64 o2_5],.arr (.st (.pair (.int .i64) .str)) o3,.arr (.st (.pair (.int .i64) (.int .i64))) o4,.arr (.st (.pair (.int .i64) (.int .i64))) o5,.arr (.st (.pair (.int .i64) .str)) o6,.arr (.int .i64) o7,.arr (.int .i64) o8,.arr (.st (.pair (.int .i64) (.int .i64))) o9,.arr (.st (.pair (.int .i64) .str)) o10])
def decPAq11 (l : List AV) (H : List AE.Obj) : Option {a : Aq11 // (l,H) = argsq11 a} := match l,H with
  | [.ptr 0 0,.agg [.int .i64 a1_0,.int .i64 a1_1]],[.cells [.ifc 27 (.ptr 1 0),.ifc 27 (.ptr 2 0),.int .i64 o0_2,.own 3,.own 4],.cells [.ro (.int .i64) o1_0,.ro (.int .i64) o1_1,.own 5,.own 6,.int .i64 o1_4,.int .i64 o1_5],.cells [.own 7,.own 8,.own 9,.own 10,.int .i64 o2_4,.int .i64 o2_5],.arr (.st (.pair (.int .i64) .str)) o3,.arr (.st (.pair (.int .i64) (.int .i64))) o4,.arr (.st (.pair (.int .i64) (.int .i64))) o5,.arr (.st (.pair (.int .i64) .str)) o6,.arr (.int .i64) o7,.arr (.int .i64) o8,.arr (.st (.pair (.int .i64) (.int .i64))) o9,.arr (.st (.pair (.int .i64) .str)) o10] => some ⟨(a1_0,a1_1,o0_2,o1_0,o1_1,o1_4,o1_5,o2_4,o2_5,o3,o4,o5,o6,o7,o8,o9,o10),rfl⟩
  | _,_ => none
def decAq11 (l : List AV) (H : List AE.Obj) : Option Aq11 := pk (decPAq11 l H)
theorem decAq11_ok (l : List AV) (H : List AE.Obj) (a : Aq11) (h : decAq11 l H = some a) : (l,H) = argsq11 a := pk_ok (o := decPAq11 l H) h
def outq11 : Aq11 → (AV → List AE.Obj → Ans) → Yq11 → Ans := fun (a1_0,a1_1,o0_2,o1_0,o1_1,o1_4,o1_5,o2_4,o2_5,o3,o4,o5,o6,o7,o8,o9,o10) K => (Sum.elim (fun o11_y => K (.bool (false)) [.cells [.ifc 27 (.ptr 1 0),.ifc 27 (.ptr 2 0),.int .i64 o0_2,.own 3,.own 11],.cells [.ro (.int .i64) o1_0,.ro (.int .i64) o1_1,.own 5,.own 6,.int .i64 o1_4,.int .i64 o1_5],.cells [.own 7,.own 8,.own 9,.own 10,.int .i64 o2_4,.int .i64 o2_5],.arr (.st (.pair (.int .i64) .str)) o3,.arr (.st (.pair (.int .i64) (.int .i64))) o4,.arr (.st (.pair (.int .i64) (.int .i64))) o5,.arr (.st (.pair (.int .i64) .str)) o6,.arr (.int .i64) o7,.arr (.int .i64) o8,.arr (.st (.pair (.int .i64) (.int .i64))) o9,.arr (.st (.pair (.int .i64) .str)) o10,.arr (.st (.pair (.int .i64) (.int .i64))) o11_y]) ((Sum.elim (unP fun o11_y o12_y => K (.bool (true)) [.cells [.ifc 27 (.ptr 1 0),.ifc 27 (.ptr 2 0),.int .i64 o0_2,.own 11,.own 12],.cells [.ro (.int .i64) o1_0,.ro (.int .i64) o1_1,.own 5,.own 6,.int .i64 o1_4,.int .i64 o1_5],.cells [.own 7,.own 8,.own 9,.own 10,.int .i64 o2_4,.int .i64 o2_5],.arr (.st (.pair (.int .i64) .str)) o3,.arr (.st (.pair (.int .i64) (.int .i64))) o4,.arr (.st (.pair (.int .i64) (.int .i64))) o5,.arr (.st (.pair (.int .i64) .str)) o6,.arr (.int .i64) o7,.arr (.int .i64) o8,.arr (.st (.pair (.int .i64) (.int .i64))) o9,.arr (.st (.pair (.int .i64) .str)) o10,.arr (.st (.pair (.int .i64) .str)) o11_y,.arr (.st (.pair (.int .i64) (.int .i64))) o12_y]) (fun _ => K (.bool (false)) [.cells [.ifc 27 (.ptr 1 0),.ifc 27 (.ptr 2 0),.int .i64 o0_2,.own 3,.own 4],.cells [.ro (.int .i64) o1_0,.ro (.int .i64) o1_1,.own 5,.own 6,.int .i64 o1_4,.int .i64 o1_5],.cells [.own 7,.own 8,.own 9,.own 10,.int .i64 o2_4,.int .i64 o2_5],.arr (.st (.pair (.int .i64) .str)) o3,.arr (.st (.pair (.int .i64) (.int .i64))) o4,.arr (.st (.pair (.int .i64) (.int .i64))) o5,.arr (.st (.pair (.int .i64) .str)) o6,.arr (.int .i64) o7,.arr (.int .i64) o8,.arr (.st (.pair (.int .i64) (.int .i64))) o9,.arr (.st (.pair (.int .i64) .str)) o10]))))
theorem fnq11_ok (a : Aq11) (K : AV → List AE.Obj → Ans) : fnE Try.tab envq11 noHint 0 70 23 Try.f23.ntmps Try.f23.results.toList annq11 bq11 (argsq11 a).1 (argsq11 a).2 K = fnq11 a (outq11 a K) := by kernel_rfl
def vFq11 (a : Aq11) (K : AV → List AE.Obj → Ans) : Ans := bindO (fnDq11 a) fun y => outq11 a K y
def Fq11 : List AV → List AE.Obj → (AV → List AE.Obj → Ans) → Ans := fun l H K => bindO (decAq11 l H) fun a => vFq11 a K
theorem Fq11_ok : FuncOk Try.prog 23 Fq11 := func_mkD (hint := noHint) (d := 0) (n := 70) mixed tabOk envq11Ok Try.func23 (bodySome (by kernel_rfl)) (by decide +kernel) annq11_ok decAq11_ok fnq11_ok fnq11_nat
--@ law44_Tape_EventsB
noncomputable def envq21 : Env := []
theorem envq21Ok : EnvOk Try.prog envq21 := EnvOk.nil
noncomputable def bq21 : Code := Try.f39.body.getD .skip
noncomputable def annq21 : Ann := .none
theorem annq21_ok : AnnOk Try.prog 12 bq21 annq21 := (annOk_none _ _ _)
abbrev Aq21 := (Int) × (Int) × (List Int) × (List Int) × (List (Int × Int)) × (List (Int × List UInt8))
abbrev Yq21 := Unit
def fnq21 {β : Type} : Aq21 → (Yq21 → Option β) → Option β := fun (o0_4,o0_5,o1,o2,o3,o4) exit => (exit ())
def fnDq21 (a : Aq21) : Option Yq21 := fnq21 a some
theorem fnq21_nat (a : Aq21) (k : Yq21 → Ans) : fnq21 a k = bindO (fnDq21 a) k := by
  obtain ⟨o0_4,o0_5,o1,o2,o3,o4⟩ := a
  simp only [fnDq21,fnq21,bindO_cond,bindO_assoc,bindO_none,bindO_pure,bindO_elim,bindO_unP,bindO_empty]
def argsq21 : Aq21 → List AV × List AE.Obj := fun (o0_4,o0_5,o1,o2,o3,o4) => ([.ptr 0 0],[.cells [.own 1,.own 2,.own 3,.own 4,.int .i64 o0_4,.int .i64 o0_5],.arr (.int .i64) o1,.arr (.int .i64) o2,.arr (.st (.pair (.int .i64) (.int .i64))) o3,.arr (.st (.pair (.int .i64) .str)) o4])
def decPAq21 (l : List AV) (H : List AE.Obj) : Option {a : Aq21 // (l,H) = argsq21 a} := match l,H with
  | [.ptr 0 0],[.cells [.own 1,.own 2,.own 3,.own 4,.int .i64 o0_4,.int .i64 o0_5],.arr (.int .i64) o1,.arr (.int .i64) o2,.arr (.st (.pair (.int .i64) (.int .i64))) o3,.arr (.st (.pair (.int .i64) .str)) o4] => some ⟨(o0_4,o0_5,o1,o2,o3,o4),rfl⟩
  | _,_ => none
def decAq21 (l : List AV) (H : List AE.Obj) : Option Aq21 := pk (decPAq21 l H)
theorem decAq21_ok (l : List AV) (H : List AE.Obj) (a : Aq21) (h : decAq21 l H = some a) : (l,H) = argsq21 a := pk_ok (o := decPAq21 l H) h
def outq21 : Aq21 → (AV → List AE.Obj → Ans) → Yq21 → Ans := fun (o0_4,o0_5,o1,o2,o3,o4) K => fun _ => K (.own 3) [.cells [.own 1,.own 2,.own 5,.own 4,.int .i64 o0_4,.int .i64 o0_5],.arr (.int .i64) o1,.arr (.int .i64) o2,.arr (.st (.pair (.int .i64) (.int .i64))) o3,.arr (.st (.pair (.int .i64) .str)) o4,.arr (.st (.pair (.int .i64) (.int .i64))) ([])]
theorem fnq21_ok (a : Aq21) (K : AV → List AE.Obj → Ans) : fnE Try.tab envq21 noHint 0 70 39 Try.f39.ntmps Try.f39.results.toList annq21 bq21 (argsq21 a).1 (argsq21 a).2 K = fnq21 a (outq21 a K) := by kernel_rfl
def vFq21 (a : Aq21) (K : AV → List AE.Obj → Ans) : Ans := bindO (fnDq21 a) fun y => outq21 a K y
def Fq21 : List AV → List AE.Obj → (AV → List AE.Obj → Ans) → Ans := fun l H K => bindO (decAq21 l H) fun a => vFq21 a K
theorem Fq21_ok : FuncOk Try.prog 39 Fq21 := func_mkD (hint := noHint) (d := 0) (n := 70) mixed tabOk envq21Ok Try.func39 (bodySome (by kernel_rfl)) (by decide +kernel) annq21_ok decAq21_ok fnq21_ok fnq21_nat
end Go.Proofs.R8
namespace Go.Proofs.R8
open Go Go.AE
set_option maxRecDepth 100000
--@ client_Client_Poll
noncomputable def envq7 : Env := [(21,.func Fq15),(39,.func (altF decAq20 vFq20 Fq21)),(23,.func Fq11)]
theorem envq7Ok : EnvOk Try.prog envq7 := EnvOk.cons Fq15_ok (EnvOk.cons (func_altF Fq20_ok Fq21_ok) (EnvOk.cons Fq11_ok (EnvOk.nil)))
noncomputable def bq7 : Code := Try.f18.body.getD .skip
noncomputable def Lq7_n1 : Code := codeAt [1,1,1,1,0,1,0,0,1,1,0] bq7
noncomputable def annLq7_n1 : Ann := .none
theorem annLq7_n1_ok : AnnOk Try.prog 23 Lq7_n1 annLq7_n1 := (annOk_none _ _ _)
abbrev Iq7_n1 := (Bool) × (Int) × (Int) × (Int) × (List Int) × (List Int) × (Int) × (Int) × (Int) × (Int) × (List (Int × Int)) × (List (Int × List UInt8)) × (List (Int × Int)) × (List (Int × Int)) × (List (Int × List UInt8)) × (List Int) × (List Int) × (List (Int × Int)) × (List (Int × List UInt8))
abbrev Yq7_n1 := (Bool) × (List (Int × List UInt8)) × (List (Int × Int))
def Sq7_n1 : Iq7_n1 → St := fun (t4,t13,t14,o0_2,o1_0,o1_1,o1_4,o1_5,o2_4,o2_5,o11,o12,o13,o14,o15,o16,o17,o18,o19) => { env := [(0,.ptr 0 0),(4,.bool t4),(12,.own 11),(13,.int .i64 t13),(14,.int .i64 t14)],stk := [[(0,.ptr 0 0),(1,.ptr 1 0),(2,.ptr 2 0)]],H := [.cells [.ifc 27 (.ptr 1 0),.ifc 27 (.ptr 2 0),.int .i64 o0_2,.own 12,.own 13],.cells [.ro (.int .i64) o1_0,.ro (.int .i64) o1_1,.own 14,.own 15,.int .i64 o1_4,.int .i64 o1_5],.cells [.own 16,.own 17,.own 18,.own 19,.int .i64 o2_4,.int .i64 o2_5],.dead,.dead,.dead,.dead,.dead,.dead,.dead,.dead,.arr (.st (.pair (.int .i64) (.int .i64))) o11,.arr (.st (.pair (.int .i64) .str)) o12,.arr (.st (.pair (.int .i64) (.int .i64))) o13,.arr (.st (.pair (.int .i64) (.int .i64))) o14,.arr (.st (.pair (.int .i64) .str)) o15,.arr (.int .i64) o16,.arr (.int .i64) o17,.arr (.st (.pair (.int .i64) (.int .i64))) o18,.arr (.st (.pair (.int .i64) .str)) o19],blk := 73728 }
def decPq7_n1 (s : St) : Option {x : Iq7_n1 // s = Sq7_n1 x} := match s with
  | { env := [(0,.ptr 0 0),(4,.bool t4),(12,.own 11),(13,.int .i64 t13),(14,.int .i64 t14)],stk := [[(0,.ptr 0 0),(1,.ptr 1 0),(2,.ptr 2 0)]],H := [.cells [.ifc 27 (.ptr 1 0),.ifc 27 (.ptr 2 0),.int .i64 o0_2,.own 12,.own 13],.cells [.ro (.int .i64) o1_0,.ro (.int .i64) o1_1,.own 14,.own 15,.int .i64 o1_4,.int .i64 o1_5],.cells [.own 16,.own 17,.own 18,.own 19,.int .i64 o2_4,.int .i64 o2_5],.dead,.dead,.dead,.dead,.dead,.dead,.dead,.dead,.arr (.st (.pair (.int .i64) (.int .i64))) o11,.arr (.st (.pair (.int .i64) .str)) o12,.arr (.st (.pair (.int .i64) (.int .i64))) o13,.arr (.st (.pair (.int .i64) (.int .i64))) o14,.arr (.st (.pair (.int .i64) .str)) o15,.arr (.int .i64) o16,.arr (.int .i64) o17,.arr (.st (.pair (.int .i64) (.int .i64))) o18,.arr (.st (.pair (.int .i64) .str)) o19],blk := 73728 } => some ⟨(t4,t13,t14,o0_2,o1_0,o1_1,o1_4,o1_5,o2_4,o2_5,o11,o12,o13,o14,o15,o16,o17,o18,o19),rfl⟩
  | _ => none
def decq7_n1 (s : St) : Option Iq7_n1 := pk (decPq7_n1 s)
theorem decq7_n1_ok (s : St) (x : Iq7_n1) (h : decq7_n1 s = some x) : s = Sq7_n1 x := pk_ok (o := decPq7_n1 s) h
def outq7_n1 : Iq7_n1 → (Ex → St → Ans) → Yq7_n1 → Ans := fun (t4,t13,t14,o0_2,o1_0,o1_1,o1_4,o1_5,o2_4,o2_5,o11,o12,o13,o14,o15,o16,o17,o18,o19) K => unP fun t4_y => unP fun o12_y o13_y => K (Ex.norm) { env := [(0,.ptr 0 0),(4,.bool t4_y),(12,.own 11),(13,.int .i64 t13),(14,.int .i64 t14)],stk := [[(0,.ptr 0 0),(1,.ptr 1 0),(2,.ptr 2 0)]],H := [.cells [.ifc 27 (.ptr 1 0),.ifc 27 (.ptr 2 0),.int .i64 o0_2,.own 12,.own 13],.cells [.ro (.int .i64) o1_0,.ro (.int .i64) o1_1,.own 14,.own 15,.int .i64 o1_4,.int .i64 o1_5],.cells [.own 16,.own 17,.own 18,.own 19,.int .i64 o2_4,.int .i64 o2_5],.dead,.dead,.dead,.dead,.dead,.dead,.dead,.dead,.arr (.st (.pair (.int .i64) (.int .i64))) o11,.arr (.st (.pair (.int .i64) .str)) o12_y,.arr (.st (.pair (.int .i64) (.int .i64))) o13_y,.arr (.st (.pair (.int .i64) (.int .i64))) o14,.arr (.st (.pair (.int .i64) .str)) o15,.arr (.int .i64) o16,.arr (.int .i64) o17,.arr (.st (.pair (.int .i64) (.int .i64))) o18,.arr (.st (.pair (.int .i64) .str)) o19],blk := 73729 }
def nodeq7_n1 {β : Type} : Iq7_n1 → (Yq7_n1 → Option β) → Option β := fun (t4,t13,t14,o0_2,o1_0,o1_1,o1_4,o1_5,o2_4,o2_5,o11,o12,o13,o14,o15,o16,o17,o18,o19) exit => (bif inR t14 (List.length o11) then (bindO (o11[Int.toNat t14]?) fun x => (bindO (fnDq11 (x.fst,x.snd,o0_2,o1_0,o1_1,o1_4,o1_5,o2_4,o2_5,o12,o13,o14,o15,o16,o17,o18,o19)) (Sum.elim (fun o11_2 => (exit (t4,o12,o11_2))) ((Sum.elim (unP fun o11_2 o12_2 => (exit (true,o11_2,o12_2))) (fun _ => (exit (t4,o12,o13)))))))) else none)
def nodeDq7_n1 (i : Iq7_n1) : Option Yq7_n1 := nodeq7_n1 i some
theorem nodeq7_n1_nat (i : Iq7_n1) (k : Yq7_n1 → Ans) : nodeq7_n1 i k = bindO (nodeDq7_n1 i) k := by
  obtain ⟨t4,t13,t14,o0_2,o1_0,o1_1,o1_4,o1_5,o2_4,o2_5,o11,o12,o13,o14,o15,o16,o17,o18,o19⟩ := i
  simp only [nodeDq7_n1,nodeq7_n1,bindO_cond,bindO_assoc,bindO_none,bindO_pure,bindO_elim,bindO_unP,bindO_empty]
theorem nodeq7_n1_ok (i : Iq7_n1) (K : Ex → St → Ans) : codeI Try.tab envq7 noHint (codeD Try.tab envq7 noHint 0 64) 70 23 annLq7_n1 Lq7_n1 (weakP 100011 (exk [0,4,12,13,14] [2] []) K) (Sq7_n1 i) = nodeq7_n1 i (outq7_n1 i K) := by kernel_rfl
theorem GNq7_n1_ok : CSum Try.prog 23 Lq7_n1 (sumN decq7_n1 nodeDq7_n1 outq7_n1) := csum_node mixed tabOk envq7Ok 100011 (exk [0,4,12,13,14] [2] []) annLq7_n1_ok decq7_n1_ok nodeq7_n1_ok nodeq7_n1_nat
noncomputable def Gq7_n1 : (Ex → St → Ans) → St → Ans := (sumN decq7_n1 nodeDq7_n1 outq7_n1)
theorem Gq7_n1_ok : CSum Try.prog 23 Lq7_n1 Gq7_n1 := GNq7_n1_ok
noncomputable def Lq7_n0 : Code := codeAt [1,1,1,1,0,1,0,0] bq7
noncomputable def annLq7_n0 : Ann := .at 100011 [0,4,12,13,14] (.loop (.seq .none (.seq .none (.seq (.cut 100011 [0,4,12,13,14] Gq7_n1) .none))))
theorem annLq7_n0_ok : AnnOk Try.prog 23 (.loop Lq7_n0) annLq7_n0 := annOk_at ⟨(annOk_none _ _ _),⟨(annOk_none _ _ _),⟨Gq7_n1_ok,(annOk_none _ _ _)⟩⟩⟩
abbrev Iq7_n0 := (Int) × (Int) × (List Int) × (List Int) × (Int) × (Int) × (Int) × (Int) × (List (Int × Int)) × (List (Int × Int)) × (List (Int × List UInt8)) × (List Int) × (List Int) × (List (Int × Int)) × (List (Int × List UInt8))
abbrev Yq7_n0 := (Bool) × (List (Int × List UInt8)) × (List (Int × Int))
abbrev Vq7_n0 := (Bool) × (Int) × (List (Int × List UInt8)) × (List (Int × Int))
def Sq7_n0 : Iq7_n0 → Vq7_n0 → St := fun (t13,o0_2,o1_0,o1_1,o1_4,o1_5,o2_4,o2_5,o11,o14,o15,o16,o17,o18,o19) (t4,t14,o12,o13) => { env := [(0,.ptr 0 0),(4,.bool t4),(12,.own 11),(13,.int .i64 t13),(14,.int .i64 t14)],stk := [[(0,.ptr 0 0),(1,.ptr 1 0),(2,.ptr 2 0)]],H := [.cells [.ifc 27 (.ptr 1 0),.ifc 27 (.ptr 2 0),.int .i64 o0_2,.own 12,.own 13],.cells [.ro (.int .i64) o1_0,.ro (.int .i64) o1_1,.own 14,.own 15,.int .i64 o1_4,.int .i64 o1_5],.cells [.own 16,.own 17,.own 18,.own 19,.int .i64 o2_4,.int .i64 o2_5],.dead,.dead,.dead,.dead,.dead,.dead,.dead,.dead,.arr (.st (.pair (.int .i64) (.int .i64))) o11,.arr (.st (.pair (.int .i64) .str)) o12,.arr (.st (.pair (.int .i64) (.int .i64))) o13,.arr (.st (.pair (.int .i64) (.int .i64))) o14,.arr (.st (.pair (.int .i64) .str)) o15,.arr (.int .i64) o16,.arr (.int .i64) o17,.arr (.st (.pair (.int .i64) (.int .i64))) o18,.arr (.st (.pair (.int .i64) .str)) o19],blk := 73728 }
def decPq7_n0 (s : St) : Option {x : Iq7_n0 × Vq7_n0 // s = Sq7_n0 x.1 x.2} := match s with
  | { env := [(0,.ptr 0 0),(4,.bool t4),(12,.own 11),(13,.int .i64 t13),(14,.int .i64 t14)],stk := [[(0,.ptr 0 0),(1,.ptr 1 0),(2,.ptr 2 0)]],H := [.cells [.ifc 27 (.ptr 1 0),.ifc 27 (.ptr 2 0),.int .i64 o0_2,.own 12,.own 13],.cells [.ro (.int .i64) o1_0,.ro (.int .i64) o1_1,.own 14,.own 15,.int .i64 o1_4,.int .i64 o1_5],.cells [.own 16,.own 17,.own 18,.own 19,.int .i64 o2_4,.int .i64 o2_5],.dead,.dead,.dead,.dead,.dead,.dead,.dead,.dead,.arr (.st (.pair (.int .i64) (.int .i64))) o11,.arr (.st (.pair (.int .i64) .str)) o12,.arr (.st (.pair (.int .i64) (.int .i64))) o13,.arr (.st (.pair (.int .i64) (.int .i64))) o14,.arr (.st (.pair (.int .i64) .str)) o15,.arr (.int .i64) o16,.arr (.int .i64) o17,.arr (.st (.pair (.int .i64) (.int .i64))) o18,.arr (.st (.pair (.int .i64) .str)) o19],blk := 73728 } => some ⟨((t13,o0_2,o1_0,o1_1,o1_4,o1_5,o2_4,o2_5,o11,o14,o15,o16,o17,o18,o19),(t4,t14,o12,o13)),rfl⟩
  | _ => none
def decq7_n0 (s : St) : Option (Iq7_n0 × Vq7_n0) := pk (decPq7_n0 s)
theorem decq7_n0_ok (s : St) (x : Iq7_n0 × Vq7_n0) (h : decq7_n0 s = some x) : s = Sq7_n0 x.1 x.2 := pk_ok (o := decPq7_n0 s) h
def outq7_n0 : Iq7_n0 → (Ex → St → Ans) → Yq7_n0 → Ans := fun (t13,o0_2,o1_0,o1_1,o1_4,o1_5,o2_4,o2_5,o11,o14,o15,o16,o17,o18,o19) K => unP fun t4_y => unP fun o11_y o12_y => K (Ex.exit 0) { env := [(4,.bool t4_y)],stk := [[(0,.ptr 0 0),(1,.ptr 1 0),(2,.ptr 2 0)]],H := [.cells [.ifc 27 (.ptr 1 0),.ifc 27 (.ptr 2 0),.int .i64 o0_2,.own 11,.own 12],.cells [.ro (.int .i64) o1_0,.ro (.int .i64) o1_1,.own 13,.own 14,.int .i64 o1_4,.int .i64 o1_5],.cells [.own 15,.own 16,.own 17,.own 18,.int .i64 o2_4,.int .i64 o2_5],.dead,.dead,.dead,.dead,.dead,.dead,.dead,.dead,.arr (.st (.pair (.int .i64) .str)) o11_y,.arr (.st (.pair (.int .i64) (.int .i64))) o12_y,.arr (.st (.pair (.int .i64) (.int .i64))) o14,.arr (.st (.pair (.int .i64) .str)) o15,.arr (.int .i64) o16,.arr (.int .i64) o17,.arr (.st (.pair (.int .i64) (.int .i64))) o18,.arr (.st (.pair (.int .i64) .str)) o19],blk := 73728 }
def stepq7_n0 {β : Type} : Iq7_n0 → Vq7_n0 → (Vq7_n0 → Option β) → (Yq7_n0 → Option β) → Option β := fun (t13,o0_2,o1_0,o1_1,o1_4,o1_5,o2_4,o2_5,o11,o14,o15,o16,o17,o18,o19) (t4,t14,o12,o13) next exit => (bif decide (t14 < t13) then (bindO (nodeDq7_n1 (t4,t13,t14,o0_2,o1_0,o1_1,o1_4,o1_5,o2_4,o2_5,o11,o12,o13,o14,o15,o16,o17,o18,o19)) (unP fun t4_2 => unP fun o12_2 o13_2 => (next (t4_2,IntKind.wrap .i64 (t14 + (1 : Int)),o12_2,o13_2)))) else (exit (t4,o12,o13)))
def stepDq7_n0 (i : Iq7_n0) (v : Vq7_n0) : Option (Vq7_n0 ⊕ Yq7_n0) := stepq7_n0 i v (fun v => some (.inl v)) (fun y => some (.inr y))
theorem stepq7_n0_nat (i : Iq7_n0) (v : Vq7_n0) (next : Vq7_n0 → Ans) (exit : Yq7_n0 → Ans) : stepq7_n0 i v next exit = bindO (stepDq7_n0 i v) (Sum.elim next exit) := by
  obtain ⟨t13,o0_2,o1_0,o1_1,o1_4,o1_5,o2_4,o2_5,o11,o14,o15,o16,o17,o18,o19⟩ := i
  obtain ⟨t4,t14,o12,o13⟩ := v
  simp only [stepDq7_n0,stepq7_n0,bindO_cond,bindO_assoc,bindO_none,bindO_pure,bindO_elim,bindO_unP,bindO_empty,Sum.elim_inl,Sum.elim_inr]
theorem stepq7_n0_ok (n : Nat) (i : Iq7_n0) (v : Vq7_n0) (K : Ex → St → Ans) : codeI Try.tab envq7 noHint (codeD Try.tab envq7 noHint 0 64) (n+1) 23 annLq7_n0 (.loop Lq7_n0) (weakP 100011 (exk [4] [2] [(0,[4])]) K) (Sq7_n0 i v) = stepq7_n0 i v (fun v' => codeI Try.tab envq7 noHint (codeD Try.tab envq7 noHint 0 64) n 23 annLq7_n0 (.loop Lq7_n0) (weakP 100011 (exk [4] [2] [(0,[4])]) K) (Sq7_n0 i v')) (fun y => outq7_n0 i K y) := by kernel_rfl
theorem GNq7_n0_ok : CSum Try.prog 23 (.loop Lq7_n0) (sumL decq7_n0 stepDq7_n0 outq7_n0) := csum_loop mixed tabOk envq7Ok 100011 (exk [4] [2] [(0,[4])]) annLq7_n0_ok decq7_n0_ok stepq7_n0_ok stepq7_n0_nat
noncomputable def Gq7_n0 : (Ex → St → Ans) → St → Ans := (sumL decq7_n0 stepDq7_n0 outq7_n0)
theorem Gq7_n0_ok : CSum Try.prog 23 (.loop Lq7_n0) Gq7_n0 := GNq7_n0_ok
noncomputable def annq7 : Ann := (.seq .none (.seq .none (.seq .none (.seq .none (.seq (.seq .none (.block (.cut 100011 [0,4,12,13,14] Gq7_n0))) .none)))))
theorem annq7_ok : AnnOk Try.prog 23 bq7 annq7 := ⟨(annOk_none _ _ _),⟨(annOk_none _ _ _),⟨(annOk_none _ _ _),⟨(annOk_none _ _ _),⟨⟨(annOk_none _ _ _),Gq7_n0_ok⟩,(annOk_none _ _ _)⟩⟩⟩⟩⟩
abbrev Aq7 := (Int) × (List Int) × (List Int) × (Int) × (Int) × (Int) × (Int) × (List (Int × List UInt8)) × (List (Int × Int)) × (List (Int × Int)) × (List (Int × List UInt8)) × (List Int) × (List Int) × (List (Int × Int)) × (List (Int × List UInt8))
abbrev Yq7 := (Bool) × (List (Int × List UInt8)) × (List (Int × Int)) × (List (Int × Int)) × (List (Int × Int))
def fnq7 {β : Type} : Aq7 → (Yq7 → Option β) → Option β := fun (o0_2,o1_0,o1_1,o1_4,o1_5,o2_4,o2_5,o3,o4,o5,o6,o7,o8,o9,o10) exit => (bindO (fnDq15 (o0_2,o1_0,o1_1,o1_4,o1_5,o2_4,o2_5,o3,o4,o5,o6,o7,o8,o9,o10)) (Sum.elim (fun _ => (bindO (fnDq20 (o1_0,o1_1,o1_4,o1_5,o5,o6)) fun _ => (bindO (loopD (stepDq7_n0 ((↑(List.length o5) : Int),o0_2,o1_0,o1_1,o1_4,o1_5,o2_4,o2_5,o5,[],o6,o7,o8,o9,o10)) FUEL (false,(0 : Int),o3,o4)) (unP fun t4 => unP fun o11 o12 => (exit (t4,o11,o12,[],o9)))))) (fun _ => (bindO (fnDq21 (o2_4,o2_5,o7,o8,o9,o10)) fun _ => (bindO (loopD (stepDq7_n0 ((↑(List.length o9) : Int),o0_2,o1_0,o1_1,o1_4,o1_5,o2_4,o2_5,o9,o5,o6,o7,o8,[],o10)) FUEL (false,(0 : Int),o3,o4)) (unP fun t4 => unP fun o11 o12 => (exit (t4,o11,o12,o5,[]))))))))
def fnDq7 (a : Aq7) : Option Yq7 := fnq7 a some
theorem fnq7_nat (a : Aq7) (k : Yq7 → Ans) : fnq7 a k = bindO (fnDq7 a) k := by
  obtain ⟨o0_2,o1_0,o1_1,o1_4,o1_5,o2_4,o2_5,o3,o4,o5,o6,o7,o8,o9,o10⟩ := a
  simp only [fnDq7,fnq7,bindO_cond,bindO_assoc,bindO_none,bindO_pure,bindO_elim,bindO_unP,bindO_empty]
def argsq7 : Aq7 → List AV × List AE.Obj := fun (o0_2,o1_0,o1_1,o1_4,o1_5,o2_4,o2_5,o3,o4,o5,o6,o7,o8,o9,o10) => ([.ptr 0 0],[.cells [.ifc 27 (.ptr 1 0),.ifc 27 (.ptr 2 0),.int .i64 o0_2,.own 3,.own 4],.cells [.ro (.int .i64) o1_0,.ro (.int .i64) o1_1,.own 5,.own 6,.int .i64 o1_4,.int .i64 o1_5],.cells [.own 7,.own 8,.own 9,.own 10,.int .i64 o2_4,.int .i64 o2_5],.arr (.st (.pair (.int .i64) .str)) o3,.arr (.st (.pair (.int .i64) (.int .i64))) o4,.arr (.st (.pair (.int .i64) (.int .i64))) o5,.arr (.st (.pair (.int .i64) .str)) o6,.arr (.int .i64) o7,.arr (.int .i64) o8,.arr (.st (.pair (.int .i64) (.int .i64))) o9,.arr (.st (.pair (.int .i64) .str)) o10])
def decPAq7 (l : List AV) (H : List AE.Obj) : Option {a : Aq7 // (l,H) = argsq7 a} := match l,H with
  | [.ptr 0 0],[.cells [.ifc 27 (.ptr 1 0),.ifc 27 (.ptr 2 0),.int .i64 o0_2,.own 3,.own 4],.cells [.ro (.int .i64) o1_0,.ro (.int .i64) o1_1,.own 5,.own 6,.int .i64 o1_4,.int .i64 o1_5],.cells [.own 7,.own 8,.own 9,.own 10,.int .i64 o2_4,.int .i64 o2_5],.arr (.st (.pair (.int .i64) .str)) o3,.arr (.st (.pair (.int .i64) (.int .i64))) o4,.arr (.st (.pair (.int .i64) (.int .i64))) o5,.arr (.st (.pair (.int .i64) .str)) o6,.arr (.int .i64) o7,.arr (.int .i64) o8,.arr (.st (.pair (.int .i64) (.int .i64))) o9,.arr (.st (.pair (.int .i64) .str)) o10] => some ⟨(o0_2,o1_0,o1_1,o1_4,o1_5,o2_4,o2_5,o3,o4,o5,o6,o7,o8,o9,o10),rfl⟩
  | _,_ => none
def decAq7 (l : List AV) (H : List AE.Obj) : Option Aq7 := pk (decPAq7 l H)
theorem decAq7_ok (l : List AV) (H : List AE.Obj) (a : Aq7) (h : decAq7 l H = some a) : (l,H) = argsq7 a := pk_ok (o := decPAq7 l H) h
def outq7 : Aq7 → (AV → List AE.Obj → Ans) → Yq7 → Ans := fun (o0_2,o1_0,o1_1,o1_4,o1_5,o2_4,o2_5,o3,o4,o5,o6,o7,o8,o9,o10) K => unP fun r_y => unP fun o11_y => unP fun o12_y => unP fun o13_y o17_y => K (.bool r_y) [.cells [.ifc 27 (.ptr 1 0),.ifc 27 (.ptr 2 0),.int .i64 o0_2,.own 11,.own 12],.cells [.ro (.int .i64) o1_0,.ro (.int .i64) o1_1,.own 13,.own 14,.int .i64 o1_4,.int .i64 o1_5],.cells [.own 15,.own 16,.own 17,.own 18,.int .i64 o2_4,.int .i64 o2_5],.dead,.dead,.dead,.dead,.dead,.dead,.dead,.dead,.arr (.st (.pair (.int .i64) .str)) o11_y,.arr (.st (.pair (.int .i64) (.int .i64))) o12_y,.arr (.st (.pair (.int .i64) (.int .i64))) o13_y,.arr (.st (.pair (.int .i64) .str)) o6,.arr (.int .i64) o7,.arr (.int .i64) o8,.arr (.st (.pair (.int .i64) (.int .i64))) o17_y,.arr (.st (.pair (.int .i64) .str)) o10]
theorem fnq7_ok (a : Aq7) (K : AV → List AE.Obj → Ans) : fnE Try.tab envq7 noHint 0 70 18 Try.f18.ntmps Try.f18.results.toList annq7 bq7 (argsq7 a).1 (argsq7 a).2 K = fnq7 a (outq7 a K) := by kernel_rfl
def vFq7 (a : Aq7) (K : AV → List AE.Obj → Ans) : Ans := bindO (fnDq7 a) fun y => outq7 a K y
def Fq7 : List AV → List AE.Obj → (AV → List AE.Obj → Ans) → Ans := fun l H K => bindO (decAq7 l H) fun a => vFq7 a K
theorem Fq7_ok : FuncOk Try.prog 18 Fq7 := func_mkD (hint := noHint) (d := 0) (n := 70) mixed tabOk envq7Ok Try.func18 (bodySome (by kernel_rfl)) (by decide +kernel) annq7_ok decAq7_ok fnq7_ok fnq7_nat
--@ ref44_Client_Came
noncomputable def envq31 : Env := []
theorem envq31Ok : EnvOk Try.prog envq31 := EnvOk.nil
noncomputable def bq31 : Code := Try.f19.body.getD .skip
noncomputable def Lq31_n3 : Code := codeAt [1,1,1,1,1,1,1,1,0,1,0,0] bq31
noncomputable def annLq31_n3 : Ann := .at 3 [0,6,8] (.loop .none)
theorem annLq31_n3_ok : AnnOk Try.prog 96 (.loop Lq31_n3) annLq31_n3 := annOk_at (annOk_none _ _ _)
abbrev Iq31_n3 := (Int) × (Nat) × (Nat) × (List (Int × List UInt8)) × (List (Int × Int))
abbrev Yq31_n3 := (List (Int × Int))
abbrev Vq31_n3 := (Int) × (List (Int × Int))
def Sq31_n3 : Iq31_n3 → Vq31_n3 → St := fun (t6,o0_0,o0_0_2,o1,o2) (t8,o3) => { env := [(0,.ptr 0 0),(6,.int .i64 t6),(8,.int .i64 t8)],stk := [[(0,.ptr 0 0)]],H := [.cells [.sub 1 o0_0 o0_0_2 2,.own 3],.arr (.st (.pair (.int .i64) .str)) o1,.arr (.st (.pair (.int .i64) (.int .i64))) o2,.arr (.st (.pair (.int .i64) (.int .i64))) o3],blk := 77826 }
def decPq31_n3 (s : St) : Option {x : Iq31_n3 × Vq31_n3 // s = Sq31_n3 x.1 x.2} := match s with
  | { env := [(0,.ptr 0 0),(6,.int .i64 t6),(8,.int .i64 t8)],stk := [[(0,.ptr 0 0)]],H := [.cells [.sub 1 o0_0 o0_0_2 2,.own 3],.arr (.st (.pair (.int .i64) .str)) o1,.arr (.st (.pair (.int .i64) (.int .i64))) o2,.arr (.st (.pair (.int .i64) (.int .i64))) o3],blk := 77826 } => some ⟨((t6,o0_0,o0_0_2,o1,o2),(t8,o3)),rfl⟩
  | _ => none
def decq31_n3 (s : St) : Option (Iq31_n3 × Vq31_n3) := pk (decPq31_n3 s)
theorem decq31_n3_ok (s : St) (x : Iq31_n3 × Vq31_n3) (h : decq31_n3 s = some x) : s = Sq31_n3 x.1 x.2 := pk_ok (o := decPq31_n3 s) h
def outq31_n3 : Iq31_n3 → (Ex → St → Ans) → Yq31_n3 → Ans := fun (t6,o0_0,o0_0_2,o1,o2) K => fun o3_y => K (Ex.exit 2) { env := [],stk := [[(0,.ptr 0 0)]],H := [.cells [.sub 1 o0_0 o0_0_2 2,.own 3],.arr (.st (.pair (.int .i64) .str)) o1,.arr (.st (.pair (.int .i64) (.int .i64))) o2,.arr (.st (.pair (.int .i64) (.int .i64))) o3_y],blk := 77826 }
def stepq31_n3 {β : Type} : Iq31_n3 → Vq31_n3 → (Vq31_n3 → Option β) → (Yq31_n3 → Option β) → Option β := fun (t6,o0_0,o0_0_2,o1,o2) (t8,o3) next exit => (bif decide (t8 < (↑(List.length o3) : Int)) then (bif inR t8 (List.length o3) then (bindO (o3[Int.toNat t8]?) fun x => (bif inR t8 (List.length o3) then (bindO (o3[Int.toNat t8]?) fun x_2 => (next (IntKind.wrap .i64 (t8 + (1 : Int)),List.set o3 (Int.toNat t8) (x_2.fst,if (0 : Int) > IntKind.wrap .i64 (x.snd - t6) then (0 : Int) else IntKind.wrap .i64 (x.snd - t6))))) else none)) else none) else (exit (o3)))
def stepDq31_n3 (i : Iq31_n3) (v : Vq31_n3) : Option (Vq31_n3 ⊕ Yq31_n3) := stepq31_n3 i v (fun v => some (.inl v)) (fun y => some (.inr y))
theorem stepq31_n3_nat (i : Iq31_n3) (v : Vq31_n3) (next : Vq31_n3 → Ans) (exit : Yq31_n3 → Ans) : stepq31_n3 i v next exit = bindO (stepDq31_n3 i v) (Sum.elim next exit) := by
  obtain ⟨t6,o0_0,o0_0_2,o1,o2⟩ := i
  obtain ⟨t8,o3⟩ := v
  simp only [stepDq31_n3,stepq31_n3,bindO_cond,bindO_assoc,bindO_none,bindO_pure,bindO_elim,bindO_unP,bindO_empty,Sum.elim_inl,Sum.elim_inr]
theorem stepq31_n3_ok (n : Nat) (i : Iq31_n3) (v : Vq31_n3) (K : Ex → St → Ans) : codeI Try.tab envq31 noHint (codeD Try.tab envq31 noHint 0 64) (n+1) 96 annLq31_n3 (.loop Lq31_n3) (weakP 3 (exk [] [4] [(2,[])]) K) (Sq31_n3 i v) = stepq31_n3 i v (fun v' => codeI Try.tab envq31 noHint (codeD Try.tab envq31 noHint 0 64) n 96 annLq31_n3 (.loop Lq31_n3) (weakP 3 (exk [] [4] [(2,[])]) K) (Sq31_n3 i v')) (fun y => outq31_n3 i K y) := by kernel_rfl
theorem GNq31_n3_ok : CSum Try.prog 96 (.loop Lq31_n3) (sumL decq31_n3 stepDq31_n3 outq31_n3) := csum_loop mixed tabOk envq31Ok 3 (exk [] [4] [(2,[])]) annLq31_n3_ok decq31_n3_ok stepq31_n3_ok stepq31_n3_nat
noncomputable def Gq31_n3 : (Ex → St → Ans) → St → Ans := (sumL decq31_n3 stepDq31_n3 outq31_n3)
theorem Gq31_n3_ok : CSum Try.prog 96 (.loop Lq31_n3) Gq31_n3 := GNq31_n3_ok
noncomputable def Lq31_n2 : Code := codeAt [1,1,1,0,1,0,0,1,0,0,0] bq31
noncomputable def annLq31_n2 : Ann := .none
theorem annLq31_n2_ok : AnnOk Try.prog 96 Lq31_n2 annLq31_n2 := (annOk_none _ _ _)
abbrev Iq31_n2 := (Int) × (Int) × (Nat) × (Nat) × (List (Int × List UInt8)) × (List (Int × Int)) × (Int) × (Int) × (List (Int × Int))
abbrev Yq31_n2 := (Bool)
def Sq31_n2 : Iq31_n2 → St := fun (t6,t7,o0_0,o0_0_2,o1,o2,o3_0,o3_1,o4) => { env := [(0,.ptr 0 0),(3,.ptr 3 0),(5,.own 4),(6,.int .i64 t6),(7,.int .i64 t7)],stk := [[(0,.ptr 0 0)]],H := [.cells [.sub 1 o0_0 o0_0_2 2,.own 2],.arr (.st (.pair (.int .i64) .str)) o1,.arr (.st (.pair (.int .i64) (.int .i64))) o2,.cells [.int .i64 o3_0,.int .i64 o3_1],.arr (.st (.pair (.int .i64) (.int .i64))) o4],blk := 77825 }
def decPq31_n2 (s : St) : Option {x : Iq31_n2 // s = Sq31_n2 x} := match s with
  | { env := [(0,.ptr 0 0),(3,.ptr 3 0),(5,.own 4),(6,.int .i64 t6),(7,.int .i64 t7)],stk := [[(0,.ptr 0 0)]],H := [.cells [.sub 1 o0_0 o0_0_2 2,.own 2],.arr (.st (.pair (.int .i64) .str)) o1,.arr (.st (.pair (.int .i64) (.int .i64))) o2,.cells [.int .i64 o3_0,.int .i64 o3_1],.arr (.st (.pair (.int .i64) (.int .i64))) o4],blk := 77825 } => some ⟨(t6,t7,o0_0,o0_0_2,o1,o2,o3_0,o3_1,o4),rfl⟩
  | _ => none
def decq31_n2 (s : St) : Option Iq31_n2 := pk (decPq31_n2 s)
theorem decq31_n2_ok (s : St) (x : Iq31_n2) (h : decq31_n2 s = some x) : s = Sq31_n2 x := pk_ok (o := decPq31_n2 s) h
def outq31_n2 : Iq31_n2 → (Ex → St → Ans) → Yq31_n2 → Ans := fun (t6,t7,o0_0,o0_0_2,o1,o2,o3_0,o3_1,o4) K => fun t32_y => K (Ex.norm) { env := [(0,.ptr 0 0),(3,.ptr 3 0),(5,.own 4),(6,.int .i64 t6),(7,.int .i64 t7),(32,.bool t32_y)],stk := [[(0,.ptr 0 0)]],H := [.cells [.sub 1 o0_0 o0_0_2 2,.own 2],.arr (.st (.pair (.int .i64) .str)) o1,.arr (.st (.pair (.int .i64) (.int .i64))) o2,.cells [.int .i64 o3_0,.int .i64 o3_1],.arr (.st (.pair (.int .i64) (.int .i64))) o4],blk := 77825 }
def nodeq31_n2 {β : Type} : Iq31_n2 → (Yq31_n2 → Option β) → Option β := fun (t6,t7,o0_0,o0_0_2,o1,o2,o3_0,o3_1,o4) exit => (bif inR t7 (List.length o2) then (bindO (o2[Int.toNat t7]?) fun x => (bif x.fst == o3_0 then (exit (decide (t6 < (0 : Int)))) else (exit (false)))) else none)
def nodeDq31_n2 (i : Iq31_n2) : Option Yq31_n2 := nodeq31_n2 i some
theorem nodeq31_n2_nat (i : Iq31_n2) (k : Yq31_n2 → Ans) : nodeq31_n2 i k = bindO (nodeDq31_n2 i) k := by
  obtain ⟨t6,t7,o0_0,o0_0_2,o1,o2,o3_0,o3_1,o4⟩ := i
  simp only [nodeDq31_n2,nodeq31_n2,bindO_cond,bindO_assoc,bindO_none,bindO_pure,bindO_elim,bindO_unP,bindO_empty]
theorem nodeq31_n2_ok (i : Iq31_n2) (K : Ex → St → Ans) : codeI Try.tab envq31 noHint (codeD Try.tab envq31 noHint 0 64) 70 96 annLq31_n2 Lq31_n2 (weakP 3 (exk [0,3,5,6,7,32] [4] []) K) (Sq31_n2 i) = nodeq31_n2 i (outq31_n2 i K) := by kernel_rfl
theorem GNq31_n2_ok : CSum Try.prog 96 Lq31_n2 (sumN decq31_n2 nodeDq31_n2 outq31_n2) := csum_node mixed tabOk envq31Ok 3 (exk [0,3,5,6,7,32] [4] []) annLq31_n2_ok decq31_n2_ok nodeq31_n2_ok nodeq31_n2_nat
noncomputable def Gq31_n2 : (Ex → St → Ans) → St → Ans := (sumN decq31_n2 nodeDq31_n2 outq31_n2)
theorem Gq31_n2_ok : CSum Try.prog 96 Lq31_n2 Gq31_n2 := GNq31_n2_ok
noncomputable def Lq31_n1 : Code := codeAt [1,1,1,0,1,0,0,1,0] bq31
noncomputable def annLq31_n1 : Ann := (.block (.seq (.cut 3 [0,3,5,6,7] Gq31_n2) .none))
theorem annLq31_n1_ok : AnnOk Try.prog 96 Lq31_n1 annLq31_n1 := ⟨Gq31_n2_ok,(annOk_none _ _ _)⟩
abbrev Iq31_n1 := (Int) × (Int) × (Nat) × (Nat) × (List (Int × List UInt8)) × (List (Int × Int)) × (Int) × (Int) × (List (Int × Int))
abbrev Yq31_n1 := (Int) × (List (Int × Int))
def Sq31_n1 : Iq31_n1 → St := fun (t6,t7,o0_0,o0_0_2,o1,o2,o3_0,o3_1,o4) => { env := [(0,.ptr 0 0),(3,.ptr 3 0),(5,.own 4),(6,.int .i64 t6),(7,.int .i64 t7)],stk := [[(0,.ptr 0 0)]],H := [.cells [.sub 1 o0_0 o0_0_2 2,.own 2],.arr (.st (.pair (.int .i64) .str)) o1,.arr (.st (.pair (.int .i64) (.int .i64))) o2,.cells [.int .i64 o3_0,.int .i64 o3_1],.arr (.st (.pair (.int .i64) (.int .i64))) o4],blk := 77824 }
def decPq31_n1 (s : St) : Option {x : Iq31_n1 // s = Sq31_n1 x} := match s with
  | { env := [(0,.ptr 0 0),(3,.ptr 3 0),(5,.own 4),(6,.int .i64 t6),(7,.int .i64 t7)],stk := [[(0,.ptr 0 0)]],H := [.cells [.sub 1 o0_0 o0_0_2 2,.own 2],.arr (.st (.pair (.int .i64) .str)) o1,.arr (.st (.pair (.int .i64) (.int .i64))) o2,.cells [.int .i64 o3_0,.int .i64 o3_1],.arr (.st (.pair (.int .i64) (.int .i64))) o4],blk := 77824 } => some ⟨(t6,t7,o0_0,o0_0_2,o1,o2,o3_0,o3_1,o4),rfl⟩
  | _ => none
def decq31_n1 (s : St) : Option Iq31_n1 := pk (decPq31_n1 s)
theorem decq31_n1_ok (s : St) (x : Iq31_n1) (h : decq31_n1 s = some x) : s = Sq31_n1 x := pk_ok (o := decPq31_n1 s) h
def outq31_n1 : Iq31_n1 → (Ex → St → Ans) → Yq31_n1 → Ans := fun (t6,t7,o0_0,o0_0_2,o1,o2,o3_0,o3_1,o4) K => unP fun t6_y o4_y => K (Ex.norm) { env := [(0,.ptr 0 0),(3,.ptr 3 0),(5,.own 4),(6,.int .i64 t6_y),(7,.int .i64 t7)],stk := [[(0,.ptr 0 0)]],H := [.cells [.sub 1 o0_0 o0_0_2 2,.own 2],.arr (.st (.pair (.int .i64) .str)) o1,.arr (.st (.pair (.int .i64) (.int .i64))) o2,.cells [.int .i64 o3_0,.int .i64 o3_1],.arr (.st (.pair (.int .i64) (.int .i64))) o4_y],blk := 77825 }
def nodeq31_n1 {β : Type} : Iq31_n1 → (Yq31_n1 → Option β) → Option β := fun (t6,t7,o0_0,o0_0_2,o1,o2,o3_0,o3_1,o4) exit => (bindO (nodeDq31_n2 (t6,t7,o0_0,o0_0_2,o1,o2,o3_0,o3_1,o4)) fun t32 => (bif t32 then (bif inR t7 (List.length o2) then (bindO (o2[Int.toNat t7]?) fun x => (exit (x.snd,o4))) else none) else (bif inR t7 (List.length o2) then (bindO (o2[Int.toNat t7]?) fun x => (bif Nat.ble ((List.length o4 + List.length [(x.fst,x.snd)]) * (16 : Nat)) (140737488355328 : Nat) then (exit (t6,o4 ++ [(x.fst,x.snd)])) else none)) else none)))
def nodeDq31_n1 (i : Iq31_n1) : Option Yq31_n1 := nodeq31_n1 i some
theorem nodeq31_n1_nat (i : Iq31_n1) (k : Yq31_n1 → Ans) : nodeq31_n1 i k = bindO (nodeDq31_n1 i) k := by
  obtain ⟨t6,t7,o0_0,o0_0_2,o1,o2,o3_0,o3_1,o4⟩ := i
  simp only [nodeDq31_n1,nodeq31_n1,bindO_cond,bindO_assoc,bindO_none,bindO_pure,bindO_elim,bindO_unP,bindO_empty]
theorem nodeq31_n1_ok (i : Iq31_n1) (K : Ex → St → Ans) : codeI Try.tab envq31 noHint (codeD Try.tab envq31 noHint 0 64) 70 96 annLq31_n1 Lq31_n1 (weakP 3 (exk [0,3,5,6,7] [4] []) K) (Sq31_n1 i) = nodeq31_n1 i (outq31_n1 i K) := by kernel_rfl
theorem GNq31_n1_ok : CSum Try.prog 96 Lq31_n1 (sumN decq31_n1 nodeDq31_n1 outq31_n1) := csum_node mixed tabOk envq31Ok 3 (exk [0,3,5,6,7] [4] []) annLq31_n1_ok decq31_n1_ok nodeq31_n1_ok nodeq31_n1_nat
noncomputable def Gq31_n1 : (Ex → St → Ans) → St → Ans := (sumN decq31_n1 nodeDq31_n1 outq31_n1)
theorem Gq31_n1_ok : CSum Try.prog 96 Lq31_n1 Gq31_n1 := GNq31_n1_ok
noncomputable def Lq31_n0 : Code := codeAt [1,1,1,0,1,0,0] bq31
noncomputable def annLq31_n0 : Ann := .at 3 [0,3,5,6,7] (.loop (.seq .none (.seq (.cut 3 [0,3,5,6,7] Gq31_n1) .none)))
theorem annLq31_n0_ok : AnnOk Try.prog 96 (.loop Lq31_n0) annLq31_n0 := annOk_at ⟨(annOk_none _ _ _),⟨Gq31_n1_ok,(annOk_none _ _ _)⟩⟩
abbrev Iq31_n0 := (Nat) × (Nat) × (List (Int × List UInt8)) × (List (Int × Int)) × (Int) × (Int)
abbrev Yq31_n0 := (Int) × (List (Int × Int))
abbrev Vq31_n0 := (Int) × (Int) × (List (Int × Int))
def Sq31_n0 : Iq31_n0 → Vq31_n0 → St := fun (o0_0,o0_0_2,o1,o2,o3_0,o3_1) (t6,t7,o4) => { env := [(0,.ptr 0 0),(3,.ptr 3 0),(5,.own 4),(6,.int .i64 t6),(7,.int .i64 t7)],stk := [[(0,.ptr 0 0)]],H := [.cells [.sub 1 o0_0 o0_0_2 2,.own 2],.arr (.st (.pair (.int .i64) .str)) o1,.arr (.st (.pair (.int .i64) (.int .i64))) o2,.cells [.int .i64 o3_0,.int .i64 o3_1],.arr (.st (.pair (.int .i64) (.int .i64))) o4],blk := 77824 }
def decPq31_n0 (s : St) : Option {x : Iq31_n0 × Vq31_n0 // s = Sq31_n0 x.1 x.2} := match s with
  | { env := [(0,.ptr 0 0),(3,.ptr 3 0),(5,.own 4),(6,.int .i64 t6),(7,.int .i64 t7)],stk := [[(0,.ptr 0 0)]],H := [.cells [.sub 1 o0_0 o0_0_2 2,.own 2],.arr (.st (.pair (.int .i64) .str)) o1,.arr (.st (.pair (.int .i64) (.int .i64))) o2,.cells [.int .i64 o3_0,.int .i64 o3_1],.arr (.st (.pair (.int .i64) (.int .i64))) o4],blk := 77824 } => some ⟨((o0_0,o0_0_2,o1,o2,o3_0,o3_1),(t6,t7,o4)),rfl⟩
  | _ => none
def decq31_n0 (s : St) : Option (Iq31_n0 × Vq31_n0) := pk (decPq31_n0 s)
theorem decq31_n0_ok (s : St) (x : Iq31_n0 × Vq31_n0) (h : decq31_n0 s = some x) : s = Sq31_n0 x.1 x.2 := pk_ok (o := decPq31_n0 s) h
def outq31_n0 : Iq31_n0 → (Ex → St → Ans) → Yq31_n0 → Ans := fun (o0_0,o0_0_2,o1,o2,o3_0,o3_1) K => unP fun t6_y o4_y => K (Ex.exit 0) { env := [(0,.ptr 0 0),(3,.ptr 3 0),(5,.own 4),(6,.int .i64 t6_y)],stk := [[(0,.ptr 0 0)]],H := [.cells [.sub 1 o0_0 o0_0_2 2,.own 2],.arr (.st (.pair (.int .i64) .str)) o1,.arr (.st (.pair (.int .i64) (.int .i64))) o2,.cells [.int .i64 o3_0,.int .i64 o3_1],.arr (.st (.pair (.int .i64) (.int .i64))) o4_y],blk := 77824 }
def stepq31_n0 {β : Type} : Iq31_n0 → Vq31_n0 → (Vq31_n0 → Option β) → (Yq31_n0 → Option β) → Option β := fun (o0_0,o0_0_2,o1,o2,o3_0,o3_1) (t6,t7,o4) next exit => (bif decide (t7 < (↑(List.length o2) : Int)) then (bindO (nodeDq31_n1 (t6,t7,o0_0,o0_0_2,o1,o2,o3_0,o3_1,o4)) (unP fun t6_2 o4_2 => (next (t6_2,IntKind.wrap .i64 (t7 + (1 : Int)),o4_2)))) else (exit (t6,o4)))
def stepDq31_n0 (i : Iq31_n0) (v : Vq31_n0) : Option (Vq31_n0 ⊕ Yq31_n0) := stepq31_n0 i v (fun v => some (.inl v)) (fun y => some (.inr y))
theorem stepq31_n0_nat (i : Iq31_n0) (v : Vq31_n0) (next : Vq31_n0 → Ans) (exit : Yq31_n0 → Ans) : stepq31_n0 i v next exit = bindO (stepDq31_n0 i v) (Sum.elim next exit) := by
  obtain ⟨o0_0,o0_0_2,o1,o2,o3_0,o3_1⟩ := i
  obtain ⟨t6,t7,o4⟩ := v
  simp only [stepDq31_n0,stepq31_n0,bindO_cond,bindO_assoc,bindO_none,bindO_pure,bindO_elim,bindO_unP,bindO_empty,Sum.elim_inl,Sum.elim_inr]
theorem stepq31_n0_ok (n : Nat) (i : Iq31_n0) (v : Vq31_n0) (K : Ex → St → Ans) : codeI Try.tab envq31 noHint (codeD Try.tab envq31 noHint 0 64) (n+1) 96 annLq31_n0 (.loop Lq31_n0) (weakP 3 (exk [0,3,5,6] [4] [(0,[0,3,5,6])]) K) (Sq31_n0 i v) = stepq31_n0 i v (fun v' => codeI Try.tab envq31 noHint (codeD Try.tab envq31 noHint 0 64) n 96 annLq31_n0 (.loop Lq31_n0) (weakP 3 (exk [0,3,5,6] [4] [(0,[0,3,5,6])]) K) (Sq31_n0 i v')) (fun y => outq31_n0 i K y) := by kernel_rfl
theorem GNq31_n0_ok : CSum Try.prog 96 (.loop Lq31_n0) (sumL decq31_n0 stepDq31_n0 outq31_n0) := csum_loop mixed tabOk envq31Ok 3 (exk [0,3,5,6] [4] [(0,[0,3,5,6])]) annLq31_n0_ok decq31_n0_ok stepq31_n0_ok stepq31_n0_nat
noncomputable def Gq31_n0 : (Ex → St → Ans) → St → Ans := (sumL decq31_n0 stepDq31_n0 outq31_n0)
theorem Gq31_n0_ok : CSum Try.prog 96 (.loop Lq31_n0) Gq31_n0 := GNq31_n0_ok
noncomputable def annq31 : Ann := (.seq .none (.seq .none (.seq .none (.seq (.seq .none (.block (.cut 3 [0,3,5,6,7] Gq31_n0))) (.seq .none (.seq .none (.seq .none (.seq .none (.seq (.seq .none (.block (.cut 3 [0,6,8] Gq31_n3))) .none)))))))))
theorem annq31_ok : AnnOk Try.prog 96 bq31 annq31 := ⟨(annOk_none _ _ _),⟨(annOk_none _ _ _),⟨(annOk_none _ _ _),⟨⟨(annOk_none _ _ _),Gq31_n0_ok⟩,⟨(annOk_none _ _ _),⟨(annOk_none _ _ _),⟨(annOk_none _ _ _),⟨(annOk_none _ _ _),⟨⟨(annOk_none _ _ _),Gq31_n3_ok⟩,(annOk_none _ _ _)⟩⟩⟩⟩⟩⟩⟩⟩⟩
abbrev Aq31 := (Int) × (Int) × (Nat) × (Nat) × (List (Int × List UInt8)) × (List (Int × Int))
abbrev Yq31 := (Unit) ⊕ ((Bool) × (Nat) × (Nat) × (List (Int × Int)))
def fnq31 {β : Type} : Aq31 → (Yq31 → Option β) → Option β := fun (a1_0,a1_1,o0_0,o0_0_2,o1,o2) exit => (bindO (loopD (stepDq31_n0 (o0_0,o0_0_2,o1,o2,a1_0,a1_1)) FUEL ((-1 : Int),(0 : Int),[])) (unP fun t6 o4 => (bif decide (t6 < (0 : Int)) then (exit (Sum.inl ())) else (bif a1_1 != (2 : Int) then (exit (Sum.inr (false,o0_0,o0_0_2,o4))) else (bif inR t6 (o0_0_2 + (1 : Nat)) then (bindO (loopD (stepDq31_n3 (t6,o0_0 + Int.toNat t6,o0_0_2 - Int.toNat t6,o1,o2)) FUEL ((0 : Int),o4)) fun o3 => (exit (Sum.inr (true,o0_0 + Int.toNat t6,o0_0_2 - Int.toNat t6,o3)))) else none)))))
def fnDq31 (a : Aq31) : Option Yq31 := fnq31 a some
theorem fnq31_nat (a : Aq31) (k : Yq31 → Ans) : fnq31 a k = bindO (fnDq31 a) k := by
  obtain ⟨a1_0,a1_1,o0_0,o0_0_2,o1,o2⟩ := a
  simp only [fnDq31,fnq31,bindO_cond,bindO_assoc,bindO_none,bindO_pure,bindO_elim,bindO_unP,bindO_empty]
def argsq31 : Aq31 → List AV × List AE.Obj := fun (a1_0,a1_1,o0_0,o0_0_2,o1,o2) => ([.ptr 0 0,.agg [.int .i64 a1_0,.int .i64 a1_1]],[.cells [.sub 1 o0_0 o0_0_2 2,.own 2],.arr (.st (.pair (.int .i64) .str)) o1,.arr (.st (.pair (.int .i64) (.int .i64))) o2])
def decPAq31 (l : List AV) (H : List AE.Obj) : Option {a : Aq31 // (l,H) = argsq31 a} := match l,H with
  | [.ptr 0 0,.agg [.int .i64 a1_0,.int .i64 a1_1]],[.cells [.sub 1 o0_0 o0_0_2 2,.own 2],.arr (.st (.pair (.int .i64) .str)) o1,.arr (.st (.pair (.int .i64) (.int .i64))) o2] => some ⟨(a1_0,a1_1,o0_0,o0_0_2,o1,o2),rfl⟩
  | _,_ => none
def decAq31 (l : List AV) (H : List AE.Obj) : Option Aq31 := pk (decPAq31 l H)
theorem decAq31_ok (l : List AV) (H : List AE.Obj) (a : Aq31) (h : decAq31 l H = some a) : (l,H) = argsq31 a := pk_ok (o := decPAq31 l H) h
def outq31 : Aq31 → (AV → List AE.Obj → Ans) → Yq31 → Ans := fun (a1_0,a1_1,o0_0,o0_0_2,o1,o2) K => (Sum.elim (fun _ => K (.bool (false)) [.cells [.sub 1 o0_0 o0_0_2 2,.own 2],.arr (.st (.pair (.int .i64) .str)) o1,.arr (.st (.pair (.int .i64) (.int .i64))) o2]) (unP fun r_y => unP fun o0_0_y => unP fun o0_0_2_y o3_y => K (.bool r_y) [.cells [.sub 1 o0_0_y o0_0_2_y 2,.own 3],.arr (.st (.pair (.int .i64) .str)) o1,.arr (.st (.pair (.int .i64) (.int .i64))) o2,.arr (.st (.pair (.int .i64) (.int .i64))) o3_y]))
theorem fnq31_ok (a : Aq31) (K : AV → List AE.Obj → Ans) : fnE Try.tab envq31 noHint 0 70 19 Try.f19.ntmps Try.f19.results.toList annq31 bq31 (argsq31 a).1 (argsq31 a).2 K = fnq31 a (outq31 a K) := by kernel_rfl
def vFq31 (a : Aq31) (K : AV → List AE.Obj → Ans) : Ans := bindO (fnDq31 a) fun y => outq31 a K y
def Fq31 : List AV → List AE.Obj → (AV → List AE.Obj → Ans) → Ans := fun l H K => bindO (decAq31 l H) fun a => vFq31 a K
theorem Fq31_ok : FuncOk Try.prog 19 Fq31 := func_mkD (hint := noHint) (d := 0) (n := 70) mixed tabOk envq31Ok Try.func19 (bodySome (by kernel_rfl)) (by decide +kernel) annq31_ok decAq31_ok fnq31_ok fnq31_nat
--@ client_Client_Kept_2
noncomputable def envq5 : Env := []
theorem envq5Ok : EnvOk Try.prog envq5 := EnvOk.nil
noncomputable def bq5 : Code := Try.f11.body.getD .skip
noncomputable def annq5 : Ann := .none
theorem annq5_ok : AnnOk Try.prog 19 bq5 annq5 := (annOk_none _ _ _)
abbrev Aq5 := (Int) × (List Int) × (List Int) × (Int) × (Int) × (Int) × (Int) × (List (Int × List UInt8)) × (List (Int × Int)) × (List (Int × Int)) × (List (Int × List UInt8)) × (List Int) × (List Int) × (List (Int × Int)) × (List (Int × List UInt8))
abbrev Yq5 := (List (Int × List UInt8))
def fnq5 {β : Type} : Aq5 → (Yq5 → Option β) → Option β := fun (o0_2,o1_0,o1_1,o1_4,o1_5,o2_4,o2_5,o3,o4,o5,o6,o7,o8,o9,o10) exit => (bif decide ((0 : Int) ≤ (↑(List.length o3) : Int)) && decide ((↑(List.length o3) : Int) ≤ (↑(List.length o3) : Int)) && decide ((24 : Int) * (↑(List.length o3) : Int) ≤ (281474976710656 : Int)) && decide ((↑(List.length o3) : Int) ≤ (9223372036854775807 : Int)) then (exit (List.take (List.length (List.replicate (Int.toNat (↑(List.length o3) : Int)) ((0 : Int),nilL UInt8))) o3 ++ List.drop (List.length o3) (List.replicate (Int.toNat (↑(List.length o3) : Int)) ((0 : Int),nilL UInt8)))) else none)
def fnDq5 (a : Aq5) : Option Yq5 := fnq5 a some
theorem fnq5_nat (a : Aq5) (k : Yq5 → Ans) : fnq5 a k = bindO (fnDq5 a) k := by
  obtain ⟨o0_2,o1_0,o1_1,o1_4,o1_5,o2_4,o2_5,o3,o4,o5,o6,o7,o8,o9,o10⟩ := a
  simp only [fnDq5,fnq5,bindO_cond,bindO_assoc,bindO_none,bindO_pure,bindO_elim,bindO_unP,bindO_empty]
def argsq5 : Aq5 → List AV × List AE.Obj := fun (o0_2,o1_0,o1_1,o1_4,o1_5,o2_4,o2_5,o3,o4,o5,o6,o7,o8,o9,o10) => ([.ptr 0 0],[.cells [.ifc 27 (.ptr 1 0),.ifc 27 (.ptr 2 0),.int .i64 o0_2,.own 3,.own 4],.cells [.ro (.int .i64) o1_0,.ro (.int .i64) o1_1,.own 5,.own 6,.int .i64 o1_4,.int .i64 o1_5],.cells [.own 7,.own 8,.own 9,.own 10,.int .i64 o2_4,.int .i64 o2_5],.arr (.st (.pair (.int .i64) .str)) o3,.arr (.st (.pair (.int .i64) (.int .i64))) o4,.arr (.st (.pair (.int .i64) (.int .i64))) o5,.arr (.st (.pair (.int .i64) .str)) o6,.arr (.int .i64) o7,.arr (.int .i64) o8,.arr (.st (.pair (.int .i64) (.int .i64))) o9,.arr (.st (.pair (.int .i64) .str)) o10])
def decPAq5 (l : List AV) (H : List AE.Obj) : Option {a : Aq5 // (l,H) = argsq5 a} := match l,H with
  | [.ptr 0 0],[.cells [.ifc 27 (.ptr 1 0),.ifc 27 (.ptr 2 0),.int .i64 o0_2,.own 3,.own 4],.cells [.ro (.int .i64) o1_0,.ro (.int .i64) o1_1,.own 5,.own 6,.int .i64 o1_4,.int .i64 o1_5],.cells [.own 7,.own 8,.own 9,.own 10,.int .i64 o2_4,.int .i64 o2_5],.arr (.st (.pair (.int .i64) .str)) o3,.arr (.st (.pair (.int .i64) (.int .i64))) o4,.arr (.st (.pair (.int .i64) (.int .i64))) o5,.arr (.st (.pair (.int .i64) .str)) o6,.arr (.int .i64) o7,.arr (.int .i64) o8,.arr (.st (.pair (.int .i64) (.int .i64))) o9,.arr (.st (.pair (.int .i64) .str)) o10] => some ⟨(o0_2,o1_0,o1_1,o1_4,o1_5,o2_4,o2_5,o3,o4,o5,o6,o7,o8,o9,o10),rfl⟩
  | _,_ => none
def decAq5 (l : List AV) (H : List AE.Obj) : Option Aq5 := pk (decPAq5 l H)
theorem decAq5_ok (l : List AV) (H : List AE.Obj) (a : Aq5) (h : decAq5 l H = some a) : (l,H) = argsq5 a := pk_ok (o := decPAq5 l H) h
def outq5 : Aq5 → (AV → List AE.Obj → Ans) → Yq5 → Ans := fun (o0_2,o1_0,o1_1,o1_4,o1_5,o2_4,o2_5,o3,o4,o5,o6,o7,o8,o9,o10) K => fun o11_y => K (.own 11) [.cells [.ifc 27 (.ptr 1 0),.ifc 27 (.ptr 2 0),.int .i64 o0_2,.own 3,.own 4],.cells [.ro (.int .i64) o1_0,.ro (.int .i64) o1_1,.own 5,.own 6,.int .i64 o1_4,.int .i64 o1_5],.cells [.own 7,.own 8,.own 9,.own 10,.int .i64 o2_4,.int .i64 o2_5],.arr (.st (.pair (.int .i64) .str)) o3,.arr (.st (.pair (.int .i64) (.int .i64))) o4,.arr (.st (.pair (.int .i64) (.int .i64))) o5,.arr (.st (.pair (.int .i64) .str)) o6,.arr (.int .i64) o7,.arr (.int .i64) o8,.arr (.st (.pair (.int .i64) (.int .i64))) o9,.arr (.st (.pair (.int .i64) .str)) o10,.arr (.st (.pair (.int .i64) .str)) o11_y]
theorem fnq5_ok (a : Aq5) (K : AV → List AE.Obj → Ans) : fnE Try.tab envq5 noHint 0 70 11 Try.f11.ntmps Try.f11.results.toList annq5 bq5 (argsq5 a).1 (argsq5 a).2 K = fnq5 a (outq5 a K) := by kernel_rfl
def vFq5 (a : Aq5) (K : AV → List AE.Obj → Ans) : Ans := bindO (fnDq5 a) fun y => outq5 a K y
def Fq5 : List AV → List AE.Obj → (AV → List AE.Obj → Ans) → Ans := fun l H K => bindO (decAq5 l H) fun a => vFq5 a K
theorem Fq5_ok : FuncOk Try.prog 11 Fq5 := func_mkD (hint := noHint) (d := 0) (n := 70) mixed tabOk envq5Ok Try.func11 (bodySome (by kernel_rfl)) (by decide +kernel) annq5_ok decAq5_ok fnq5_ok fnq5_nat
--@ law09_Sectors
noncomputable def envq18 : Env := []
theorem envq18Ok : EnvOk Try.prog envq18 := EnvOk.nil
noncomputable def bq18 : Code := Try.f14.body.getD .skip
noncomputable def Lq18_n1 : Code := codeAt [1,1,0,1,0,0,0,0] bq18
noncomputable def annLq18_n1 : Ann := .none
theorem annLq18_n1_ok : AnnOk Try.prog 32 Lq18_n1 annLq18_n1 := (annOk_none _ _ _)
abbrev Iq18_n1 := (List (Int × List UInt8)) × (List (Int × List UInt8)) × (Int)
abbrev Yq18_n1 := (Bool)
def Sq18_n1 : Iq18_n1 → St := fun (t0,t1,t5) => { env := [(0,.ro (.st (.pair (.int .i64) .str)) t0),(1,.ro (.st (.pair (.int .i64) .str)) t1),(5,.int .i64 t5)],stk := [[]],H := [],blk := 57344 }
def decPq18_n1 (s : St) : Option {x : Iq18_n1 // s = Sq18_n1 x} := match s with
  | { env := [(0,.ro (.st (.pair (.int .i64) .str)) t0),(1,.ro (.st (.pair (.int .i64) .str)) t1),(5,.int .i64 t5)],stk := [[]],H := [],blk := 57344 } => some ⟨(t0,t1,t5),rfl⟩
  | _ => none
def decq18_n1 (s : St) : Option Iq18_n1 := pk (decPq18_n1 s)
theorem decq18_n1_ok (s : St) (x : Iq18_n1) (h : decq18_n1 s = some x) : s = Sq18_n1 x := pk_ok (o := decPq18_n1 s) h
def outq18_n1 : Iq18_n1 → (Ex → St → Ans) → Yq18_n1 → Ans := fun (t0,t1,t5) K => fun t20_y => K (Ex.norm) { env := [(0,.ro (.st (.pair (.int .i64) .str)) t0),(1,.ro (.st (.pair (.int .i64) .str)) t1),(5,.int .i64 t5),(20,.bool t20_y)],stk := [[]],H := [],blk := 57344 }
def nodeq18_n1 {β : Type} : Iq18_n1 → (Yq18_n1 → Option β) → Option β := fun (t0,t1,t5) exit => (bif decide (t5 < (↑(List.length t0) : Int)) then (exit (decide (t5 < (↑(List.length t1) : Int)))) else (exit (false)))
def nodeDq18_n1 (i : Iq18_n1) : Option Yq18_n1 := nodeq18_n1 i some
theorem nodeq18_n1_nat (i : Iq18_n1) (k : Yq18_n1 → Ans) : nodeq18_n1 i k = bindO (nodeDq18_n1 i) k := by
  obtain ⟨t0,t1,t5⟩ := i
  simp only [nodeDq18_n1,nodeq18_n1,bindO_cond,bindO_assoc,bindO_none,bindO_pure,bindO_elim,bindO_unP,bindO_empty]
theorem nodeq18_n1_ok (i : Iq18_n1) (K : Ex → St → Ans) : codeI Try.tab envq18 noHint (codeD Try.tab envq18 noHint 0 64) 70 32 annLq18_n1 Lq18_n1 (weakP 0 (exk [0,1,5,20] [4] []) K) (Sq18_n1 i) = nodeq18_n1 i (outq18_n1 i K) := by kernel_rfl
theorem GNq18_n1_ok : CSum Try.prog 32 Lq18_n1 (sumN decq18_n1 nodeDq18_n1 outq18_n1) := csum_node mixed tabOk envq18Ok 0 (exk [0,1,5,20] [4] []) annLq18_n1_ok decq18_n1_ok nodeq18_n1_ok nodeq18_n1_nat
noncomputable def Gq18_n1 : (Ex → St → Ans) → St → Ans := (sumN decq18_n1 nodeDq18_n1 outq18_n1)
theorem Gq18_n1_ok : CSum Try.prog 32 Lq18_n1 Gq18_n1 := GNq18_n1_ok
noncomputable def Lq18_n0 : Code := codeAt [1,1,0,1,0,0] bq18
noncomputable def annLq18_n0 : Ann := .at 0 [0,1,5] (.loop (.seq (.seq (.cut 0 [0,1,5] Gq18_n1) .none) .none))
theorem annLq18_n0_ok : AnnOk Try.prog 32 (.loop Lq18_n0) annLq18_n0 := annOk_at ⟨⟨Gq18_n1_ok,(annOk_none _ _ _)⟩,(annOk_none _ _ _)⟩
abbrev Iq18_n0 := (List (Int × List UInt8)) × (List (Int × List UInt8))
abbrev Yq18_n0 := (Unit) ⊕ (Unit)
abbrev Vq18_n0 := (Int)
def Sq18_n0 : Iq18_n0 → Vq18_n0 → St := fun (t0,t1) t5 => { env := [(0,.ro (.st (.pair (.int .i64) .str)) t0),(1,.ro (.st (.pair (.int .i64) .str)) t1),(5,.int .i64 t5)],stk := [[]],H := [],blk := 57344 }
def decPq18_n0 (s : St) : Option {x : Iq18_n0 × Vq18_n0 // s = Sq18_n0 x.1 x.2} := match s with
  | { env := [(0,.ro (.st (.pair (.int .i64) .str)) t0),(1,.ro (.st (.pair (.int .i64) .str)) t1),(5,.int .i64 t5)],stk := [[]],H := [],blk := 57344 } => some ⟨((t0,t1),t5),rfl⟩
  | _ => none
def decq18_n0 (s : St) : Option (Iq18_n0 × Vq18_n0) := pk (decPq18_n0 s)
theorem decq18_n0_ok (s : St) (x : Iq18_n0 × Vq18_n0) (h : decq18_n0 s = some x) : s = Sq18_n0 x.1 x.2 := pk_ok (o := decPq18_n0 s) h
def outq18_n0 : Iq18_n0 → (Ex → St → Ans) → Yq18_n0 → Ans := fun (t0,t1) K => (Sum.elim (fun _ => K (Ex.ret) { env := [(4,.bool (false))],stk := [[]],H := [],blk := 57345 }) (fun _ => K (Ex.exit 0) { env := [],stk := [[]],H := [],blk := 57344 }))
def stepq18_n0 {β : Type} : Iq18_n0 → Vq18_n0 → (Vq18_n0 → Option β) → (Yq18_n0 → Option β) → Option β := fun (t0,t1) t5 next exit => (bindO (nodeDq18_n1 (t0,t1,t5)) fun t20 => (bif t20 then (bindO (nth t0 t5) fun x => (bindO (nth t1 t5) fun x_2 => (bif !(x.fst == x_2.fst && (x.snd == x_2.snd && true)) then (exit (Sum.inl ())) else (next (IntKind.wrap .i64 (t5 + (1 : Int))))))) else (exit (Sum.inr ()))))
def stepDq18_n0 (i : Iq18_n0) (v : Vq18_n0) : Option (Vq18_n0 ⊕ Yq18_n0) := stepq18_n0 i v (fun v => some (.inl v)) (fun y => some (.inr y))
theorem stepq18_n0_nat (i : Iq18_n0) (v : Vq18_n0) (next : Vq18_n0 → Ans) (exit : Yq18_n0 → Ans) : stepq18_n0 i v next exit = bindO (stepDq18_n0 i v) (Sum.elim next exit) := by
  obtain ⟨t0,t1⟩ := i
  obtain z := v
  simp only [stepDq18_n0,stepq18_n0,bindO_cond,bindO_assoc,bindO_none,bindO_pure,bindO_elim,bindO_unP,bindO_empty,Sum.elim_inl,Sum.elim_inr]
theorem stepq18_n0_ok (n : Nat) (i : Iq18_n0) (v : Vq18_n0) (K : Ex → St → Ans) : codeI Try.tab envq18 noHint (codeD Try.tab envq18 noHint 0 64) (n+1) 32 annLq18_n0 (.loop Lq18_n0) (weakP 0 (exk [] [4] [(0,[])]) K) (Sq18_n0 i v) = stepq18_n0 i v (fun v' => codeI Try.tab envq18 noHint (codeD Try.tab envq18 noHint 0 64) n 32 annLq18_n0 (.loop Lq18_n0) (weakP 0 (exk [] [4] [(0,[])]) K) (Sq18_n0 i v')) (fun y => outq18_n0 i K y) := by kernel_rfl
theorem GNq18_n0_ok : CSum Try.prog 32 (.loop Lq18_n0) (sumL decq18_n0 stepDq18_n0 outq18_n0) := csum_loop mixed tabOk envq18Ok 0 (exk [] [4] [(0,[])]) annLq18_n0_ok decq18_n0_ok stepq18_n0_ok stepq18_n0_nat
noncomputable def Gq18_n0 : (Ex → St → Ans) → St → Ans := (sumL decq18_n0 stepDq18_n0 outq18_n0)
theorem Gq18_n0_ok : CSum Try.prog 32 (.loop Lq18_n0) Gq18_n0 := GNq18_n0_ok
noncomputable def annq18 : Ann := (.seq .none (.seq .none (.seq (.seq .none (.block (.cut 0 [0,1,5] Gq18_n0))) .none)))
theorem annq18_ok : AnnOk Try.prog 32 bq18 annq18 := ⟨(annOk_none _ _ _),⟨(annOk_none _ _ _),⟨⟨(annOk_none _ _ _),Gq18_n0_ok⟩,(annOk_none _ _ _)⟩⟩⟩
abbrev Aq18 := (List (Int × List UInt8)) × (List (Int × List UInt8))
abbrev Yq18 := (Bool)
def fnq18 {β : Type} : Aq18 → (Yq18 → Option β) → Option β := fun (a0,a1) exit => (bif (↑(List.length a0) : Int) != (↑(List.length a1) : Int) then (exit (false)) else (bindO (loopD (stepDq18_n0 (a0,a1)) FUEL ((0 : Int))) (Sum.elim (fun _ => (exit (false))) (fun _ => (exit (true))))))
def fnDq18 (a : Aq18) : Option Yq18 := fnq18 a some
theorem fnq18_nat (a : Aq18) (k : Yq18 → Ans) : fnq18 a k = bindO (fnDq18 a) k := by
  obtain ⟨a0,a1⟩ := a
  simp only [fnDq18,fnq18,bindO_cond,bindO_assoc,bindO_none,bindO_pure,bindO_elim,bindO_unP,bindO_empty]
def argsq18 : Aq18 → List AV := fun (a0,a1) => [.ro (.st (.pair (.int .i64) .str)) a0,.ro (.st (.pair (.int .i64) .str)) a1]
def decPAq18 (l : List AV) : Option {a : Aq18 // l = argsq18 a} := match l with
  | [.ro (.st (.pair (.int .i64) .str)) a0,.ro (.st (.pair (.int .i64) .str)) a1] => some ⟨(a0,a1),rfl⟩
  | _ => none
def decAq18 (l : List AV) : Option Aq18 := pk (decPAq18 l)
theorem decAq18_ok (l : List AV) (a : Aq18) (h : decAq18 l = some a) : l = argsq18 a := pk_ok (o := decPAq18 l) h
def rendq18 : Aq18 → Yq18 → AV := fun (a0,a1) => fun r_y => .bool r_y
theorem rendq18_ok : ∀ (a : Aq18) (y : Yq18),(rendq18 a y).closed1 = true := by
  rintro ⟨a0,a1⟩ y <;> first | rfl | exact Empty.elim y
theorem fnq18_ok (a : Aq18) : fnE Try.tab envq18 noHint 0 70 14 Try.f14.ntmps Try.f14.results.toList annq18 bq18 (argsq18 a) [] (fun v _ => some (v,[])) = fnq18 a (fun y => some (rendq18 a y,[])) := by kernel_rfl
def vFq18 (a : Aq18) (K : AV → Ans) : Ans := bindO (fnDq18 a) fun y => K (rendq18 a y)
def Fq18 : List AV → (AV → Ans) → Ans := fun l K => bindO (decAq18 l) fun a => vFq18 a K
theorem Fq18_ok : PureOk Try.prog 14 Fq18 := pure_mkD (hint := noHint) (d := 0) (n := 70) mixed tabOk envq18Ok Try.func14 (bodySome (by kernel_rfl)) (by decide +kernel) annq18_ok decAq18_ok fnq18_ok fnq18_nat rendq18_ok
--@ client_Client_At_2
noncomputable def envq1 : Env := []
theorem envq1Ok : EnvOk Try.prog envq1 := EnvOk.nil
noncomputable def bq1 : Code := Try.f13.body.getD .skip
noncomputable def annq1 : Ann := .none
theorem annq1_ok : AnnOk Try.prog 9 bq1 annq1 := (annOk_none _ _ _)
abbrev Aq1 := (Int) × (List Int) × (List Int) × (Int) × (Int) × (Int) × (Int) × (List (Int × List UInt8)) × (List (Int × Int)) × (List (Int × Int)) × (List (Int × List UInt8)) × (List Int) × (List Int) × (List (Int × Int)) × (List (Int × List UInt8))
abbrev Yq1 := Unit
def fnq1 {β : Type} : Aq1 → (Yq1 → Option β) → Option β := fun (o0_2,o1_0,o1_1,o1_4,o1_5,o2_4,o2_5,o3,o4,o5,o6,o7,o8,o9,o10) exit => (exit ())
def fnDq1 (a : Aq1) : Option Yq1 := fnq1 a some
theorem fnq1_nat (a : Aq1) (k : Yq1 → Ans) : fnq1 a k = bindO (fnDq1 a) k := by
  obtain ⟨o0_2,o1_0,o1_1,o1_4,o1_5,o2_4,o2_5,o3,o4,o5,o6,o7,o8,o9,o10⟩ := a
  simp only [fnDq1,fnq1,bindO_cond,bindO_assoc,bindO_none,bindO_pure,bindO_elim,bindO_unP,bindO_empty]
def argsq1 : Aq1 → List AV × List AE.Obj := fun (o0_2,o1_0,o1_1,o1_4,o1_5,o2_4,o2_5,o3,o4,o5,o6,o7,o8,o9,o10) => ([.ptr 0 0],[.cells [.ifc 27 (.ptr 1 0),.ifc 27 (.ptr 2 0),.int .i64 o0_2,.own 3,.own 4],.cells [.ro (.int .i64) o1_0,.ro (.int .i64) o1_1,.own 5,.own 6,.int .i64 o1_4,.int .i64 o1_5],.cells [.own 7,.own 8,.own 9,.own 10,.int .i64 o2_4,.int .i64 o2_5],.arr (.st (.pair (.int .i64) .str)) o3,.arr (.st (.pair (.int .i64) (.int .i64))) o4,.arr (.st (.pair (.int .i64) (.int .i64))) o5,.arr (.st (.pair (.int .i64) .str)) o6,.arr (.int .i64) o7,.arr (.int .i64) o8,.arr (.st (.pair (.int .i64) (.int .i64))) o9,.arr (.st (.pair (.int .i64) .str)) o10])
def decPAq1 (l : List AV) (H : List AE.Obj) : Option {a : Aq1 // (l,H) = argsq1 a} := match l,H with
  | [.ptr 0 0],[.cells [.ifc 27 (.ptr 1 0),.ifc 27 (.ptr 2 0),.int .i64 o0_2,.own 3,.own 4],.cells [.ro (.int .i64) o1_0,.ro (.int .i64) o1_1,.own 5,.own 6,.int .i64 o1_4,.int .i64 o1_5],.cells [.own 7,.own 8,.own 9,.own 10,.int .i64 o2_4,.int .i64 o2_5],.arr (.st (.pair (.int .i64) .str)) o3,.arr (.st (.pair (.int .i64) (.int .i64))) o4,.arr (.st (.pair (.int .i64) (.int .i64))) o5,.arr (.st (.pair (.int .i64) .str)) o6,.arr (.int .i64) o7,.arr (.int .i64) o8,.arr (.st (.pair (.int .i64) (.int .i64))) o9,.arr (.st (.pair (.int .i64) .str)) o10] => some ⟨(o0_2,o1_0,o1_1,o1_4,o1_5,o2_4,o2_5,o3,o4,o5,o6,o7,o8,o9,o10),rfl⟩
  | _,_ => none
def decAq1 (l : List AV) (H : List AE.Obj) : Option Aq1 := pk (decPAq1 l H)
theorem decAq1_ok (l : List AV) (H : List AE.Obj) (a : Aq1) (h : decAq1 l H = some a) : (l,H) = argsq1 a := pk_ok (o := decPAq1 l H) h
def outq1 : Aq1 → (AV → List AE.Obj → Ans) → Yq1 → Ans := fun (o0_2,o1_0,o1_1,o1_4,o1_5,o2_4,o2_5,o3,o4,o5,o6,o7,o8,o9,o10) K => fun _ => K (.int .i64 o0_2) [.cells [.ifc 27 (.ptr 1 0),.ifc 27 (.ptr 2 0),.int .i64 o0_2,.own 3,.own 4],.cells [.ro (.int .i64) o1_0,.ro (.int .i64) o1_1,.own 5,.own 6,.int .i64 o1_4,.int .i64 o1_5],.cells [.own 7,.own 8,.own 9,.own 10,.int .i64 o2_4,.int .i64 o2_5],.arr (.st (.pair (.int .i64) .str)) o3,.arr (.st (.pair (.int .i64) (.int .i64))) o4,.arr (.st (.pair (.int .i64) (.int .i64))) o5,.arr (.st (.pair (.int .i64) .str)) o6,.arr (.int .i64) o7,.arr (.int .i64) o8,.arr (.st (.pair (.int .i64) (.int .i64))) o9,.arr (.st (.pair (.int .i64) .str)) o10]
theorem fnq1_ok (a : Aq1) (K : AV → List AE.Obj → Ans) : fnE Try.tab envq1 noHint 0 70 13 Try.f13.ntmps Try.f13.results.toList annq1 bq1 (argsq1 a).1 (argsq1 a).2 K = fnq1 a (outq1 a K) := by kernel_rfl
def vFq1 (a : Aq1) (K : AV → List AE.Obj → Ans) : Ans := bindO (fnDq1 a) fun y => outq1 a K y
def Fq1 : List AV → List AE.Obj → (AV → List AE.Obj → Ans) → Ans := fun l H K => bindO (decAq1 l H) fun a => vFq1 a K
theorem Fq1_ok : FuncOk Try.prog 13 Fq1 := func_mkD (hint := noHint) (d := 0) (n := 70) mixed tabOk envq1Ok Try.func13 (bodySome (by kernel_rfl)) (by decide +kernel) annq1_ok decAq1_ok fnq1_ok fnq1_nat
end Go.Proofs.R8
namespace Go.Proofs.R8
open Go Go.AE
abbrev OpT := Int × Int × List UInt8 × Int × Int × Int × (Int × Int × Int × List UInt8) × List Int
abbrev Sec := Int × List UInt8
theorem works44 : fnDq30 () = some true := by kernel_rfl
theorem great44 (l : List OpT) (hl : l.length ≤ 9223372036854775807) : ∃ b, fnDq29 l = some b ∧ (b = false → l.length ≤ 90) := by
  have key : ∃ y, loopD (stepDq29_n0 l) FUEL ((0 : Nat) : Int) = some y ∧ ((y = .inr () ∧ l.length ≤ 90) ∨ y = .inl ()) := by
    refine loopD_each l (fun j (_ : Unit) => (j : Int)) (fun j _ => j ≤ 90) _ ?_ ?_ (s0 := ()) (by omega) (by omega)
    · rintro j x s hj hlt h1
      simp only [stepDq29_n0, stepq29_n0, nodeDq29_n1, nodeq29_n1, nodeDq29_n2, nodeq29_n2, dec_true (show (j : Int) < (l.length : Int) by omega), cond_true, nth_of hj, bindO_pure]
      by_cases h90 : (j : Int) ≥ 90
      · right
        rw [dec_true h90]
        exact ⟨.inl (), rfl, .inr rfl⟩
      · rw [dec_false h90]
        by_cases hd : ((x.2.2.1.length : Nat) : Int) > 1000
        · right
          rw [dec_true hd]
          exact ⟨.inl (), rfl, .inr rfl⟩
        · left
          rw [dec_false hd]
          exact ⟨(), by simp only [cond_false, bindO_pure, Sum.elim_inr, wrap64_nat (show j < 9223372036854775807 by omega)], by omega⟩
    · rintro s h1
      simp only [stepDq29_n0, stepq29_n0, dec_false (show ¬ (l.length : Int) < (l.length : Int) by omega), cond_false]
      exact ⟨_, rfl, .inl ⟨rfl, h1⟩⟩
  obtain ⟨y, hy, h⟩ := key
  have hy' : loopD (stepDq29_n0 l) FUEL 0 = some y := hy
  simp only [fnDq29, fnq29, hy', bindO_pure]
  rcases h with ⟨rfl, h⟩ | rfl
  · exact ⟨false, rfl, fun _ => h⟩
  · exact ⟨true, rfl, fun e => by cases e⟩
theorem Sectors_refl (l : List Sec) (hl : l.length ≤ 9223372036854775806) : fnDq18 (l, l) = some true := by
  have key : ∃ y, loopD (stepDq18_n0 (l, l)) FUEL ((0 : Nat) : Int) = some y ∧ y = .inr () := by
    refine loopD_each l (fun j (_ : Unit) => (j : Int)) (fun _ _ => True) _ ?_ ?_ (s0 := ()) trivial (by omega)
    · rintro j x s hj hlt _
      left
      refine ⟨(), ?_, trivial⟩
      simp only [stepDq18_n0, stepq18_n0, nodeDq18_n1, nodeq18_n1, dec_true (show (j : Int) < (l.length : Int) by omega), cond_true, nth_of hj, bindO_pure, beq_self_eq_true, Bool.and_true, Bool.not_true, cond_false, wrap64_nat (show j < 9223372036854775807 by omega)]
    · rintro s _
      exact ⟨.inr (), by simp only [stepDq18_n0, stepq18_n0, nodeDq18_n1, nodeq18_n1, dec_false (show ¬ (l.length : Int) < (l.length : Int) by omega), cond_false, bindO_pure], rfl⟩
  obtain ⟨y, hy, rfl⟩ := key
  have hy' : loopD (stepDq18_n0 (l, l)) FUEL 0 = some (.inr ()) := hy
  have hne : ((l.length : Int) != (l.length : Int)) = false := by simp
  simp only [fnDq18, fnq18, hne, cond_false, hy', bindO_pure, Sum.elim_inr]

/-! ### The tape -/
theorem next_d (errs hows : List Int) (n k : Nat) (hn : n ≤ 1000) (hk : k ≤ 1000) (w : List (Int × Int)) (o : List Sec) :
    fnDq28 (errs, hows, (n : Int), (k : Int), w, o) = some (if (errs[n]?).getD 0 = 0 then (((k + 1 : Nat) : Int), (hows[k]?).getD 0, 0, ((n + 1 : Nat) : Int), ((k + 1 : Nat) : Int)) else (0, 0, (errs[n]?).getD 0, ((n + 1 : Nat) : Int), (k : Int))) := by
  have hn1 : IntKind.wrap .i64 (((n + 1 : Nat) : Int) - 1) = (n : Int) := by rw [wrap64_self (by omega)]; omega
  have hk1 : IntKind.wrap .i64 (((k + 1 : Nat) : Int) - 1) = (k : Int) := by rw [wrap64_self (by omega)]; omega
  have h0 : nodeDq28_n0 (decide (((n + 1 : Nat) : Int) ≤ (errs.length : Int)), errs, hows, ((n + 1 : Nat) : Int), (k : Int), w, o) = some ((errs[n]?).getD 0) := by
    by_cases h : ((n + 1 : Nat) : Int) ≤ (errs.length : Int)
    · have hlt : n < errs.length := by omega
      simp only [nodeDq28_n0, nodeq28_n0, dec_true h, cond_true, hn1, nth_of (List.getElem?_eq_getElem hlt), bindO_pure]
      rw [List.getElem?_eq_getElem hlt]; rfl
    · simp only [nodeDq28_n0, nodeq28_n0, dec_false h, cond_false]
      rw [List.getElem?_eq_none (by omega)]; rfl
  have h1 : nodeDq28_n1 (decide (((k + 1 : Nat) : Int) ≤ (hows.length : Int)), errs, hows, ((n + 1 : Nat) : Int), ((k + 1 : Nat) : Int), w, o, ((k + 1 : Nat) : Int)) = some ((hows[k]?).getD 0) := by
    by_cases h : ((k + 1 : Nat) : Int) ≤ (hows.length : Int)
    · have hlt : k < hows.length := by omega
      simp only [nodeDq28_n1, nodeq28_n1, dec_true h, cond_true, hk1, nth_of (List.getElem?_eq_getElem hlt), bindO_pure]
      rw [List.getElem?_eq_getElem hlt]; rfl
    · simp only [nodeDq28_n1, nodeq28_n1, dec_false h, cond_false]
      rw [List.getElem?_eq_none (by omega)]; rfl
  simp only [fnDq28, fnq28, wrap64_nat (show n < 9223372036854775807 by omega), wrap64_nat (show k < 9223372036854775807 by omega), h0, bindO_pure, h1]
  by_cases he : (errs[n]?).getD 0 = 0
  · rw [if_pos he, show ((errs[n]?).getD 0 != 0) = false from by rw [he]; rfl, cond_false]
  · rw [if_neg he, show ((errs[n]?).getD 0 != 0) = true from by rw [ibne, dec_false he]; rfl, cond_true]
section
variable {errs hows : List Int} {n k : Nat} (hn : n ≤ 1000) (hk : k ≤ 1000)
include hn hk
theorem next_ok (w : List (Int × Int)) (o : List Sec) (he : (errs[n]?).getD 0 = 0) : fnDq28 (errs, hows, (n : Int), (k : Int), w, o) = some (((k + 1 : Nat) : Int), (hows[k]?).getD 0, 0, ((n + 1 : Nat) : Int), ((k + 1 : Nat) : Int)) := by
  rw [next_d errs hows n k hn hk w o, if_pos he]
theorem next_err (w : List (Int × Int)) (o : List Sec) {x : Int} (hx : (errs[n]?).getD 0 = x) (he : x ≠ 0) : fnDq28 (errs, hows, (n : Int), (k : Int), w, o) = some (0, 0, x, ((n + 1 : Nat) : Int), (k : Int)) := by
  rw [next_d errs hows n k hn hk w o, hx, if_neg he]
theorem write_ok (e : Int) (d : List UInt8) (w : List (Int × Int)) (o : List Sec) (ho : o.length ≤ 1000) (he : (errs[n]?).getD 0 = 0) :
    fnDq26 (e, d, errs, hows, (n : Int), (k : Int), w, o) = some (.inl (((k + 1 : Nat) : Int), (hows[k]?).getD 0, 0, ((n + 1 : Nat) : Int), ((k + 1 : Nat) : Int), o ++ [(e, d)])) := by
  have hb1 : Nat.ble ((0 + o.length) * 24) 140737488355328 = true := ble_true (by omega)
  have hb2 : Nat.ble ((o.length + List.length [(e, d)]) * 24) 140737488355328 = true := ble_true (by simp only [List.length_singleton]; omega)
  simp only [fnDq26, fnq26, next_ok hn hk w o he, bindO_pure, unP, show ((0 : Int) == 0) = true from rfl, nodeDq26_n0, nodeq26_n0, cond_true, hb1, hb2, Sum.elim_inl]
theorem write_err (e : Int) (d : List UInt8) (w : List (Int × Int)) (o : List Sec) {x : Int} (hx : (errs[n]?).getD 0 = x) (he : x ≠ 0) :
    fnDq26 (e, d, errs, hows, (n : Int), (k : Int), w, o) = some (.inr (0, 0, x, ((n + 1 : Nat) : Int), (k : Int))) := by
  simp only [fnDq26, fnq26, next_err hn hk w o hx he, bindO_pure, unP, show (x == 0) = false from dec_false he, nodeDq26_n0, nodeq26_n0, cond_false, Sum.elim_inr]
theorem cwrite_ok (e : Int) (d : List UInt8) (K : List Sec) (hK : K.length ≤ 150) (W w5 : List (Int × Int)) (wr : List Sec) (hwr : wr.length ≤ 1000) (x9 : List (Int × Int)) (x10 : List Sec) (he : (errs[n]?).getD 0 = 0) :
    fnDq10 (e, d, 0, errs, hows, (n : Int), (k : Int), 0, 0, K, W, w5, wr, [], [], x9, x10) = some (.inr (.inl (0, ((n + 1 : Nat) : Int), ((k + 1 : Nat) : Int), K ++ [(e, d)], wr ++ [(e, d)]))) := by
  have hb2 : Nat.ble ((K.length + List.length [(e, d)]) * 24) 140737488355328 = true := ble_true (by simp only [List.length_singleton]; omega)
  have hs : fnDq15 (0, errs, hows, (n : Int), (k : Int), 0, 0, K, W, w5, wr, [], [], x9, x10) = some (.inl ()) := rfl
  simp only [fnDq10, fnq10, hs, bindO_pure, Sum.elim_inl, dec_false (show ¬ (K.length : Int) ≥ 200 by omega), cond_false, write_ok hn hk e d w5 wr hwr he, unP, show ((0 : Int) != 0) = false from rfl, hb2, cond_true]
theorem cwrite_err (e : Int) (d : List UInt8) (K : List Sec) (hK : K.length ≤ 150) (W w5 : List (Int × Int)) (wr : List Sec) (x9 : List (Int × Int)) (x10 : List Sec) {x : Int} (hx : (errs[n]?).getD 0 = x) (he : x ≠ 0) :
    fnDq10 (e, d, 0, errs, hows, (n : Int), (k : Int), 0, 0, K, W, w5, wr, [], [], x9, x10) = some (.inl (x, ((n + 1 : Nat) : Int), (k : Int), 0, 0, K)) := by
  have hs : fnDq15 (0, errs, hows, (n : Int), (k : Int), 0, 0, K, W, w5, wr, [], [], x9, x10) = some (.inl ()) := rfl
  simp only [fnDq10, fnq10, hs, bindO_pure, Sum.elim_inl, dec_false (show ¬ (K.length : Int) ≥ 200 by omega), cond_false, write_err hn hk e d w5 wr hx he, unP, show (x != 0) = true from by rw [ibne, dec_false he]; rfl, cond_true, Sum.elim_inr]
end
theorem wrote_eq (e : Int) (d : List UInt8) (off len : Nat) (arr : List Sec) (W : List (Int × Int)) (h : off + len ≤ arr.length) (hl : arr.length ≤ 1000) :
    fnDq33 (e, d, off, len, arr, W) = some ((arr.drop off).take len ++ [(e, d)]) := by
  have hlen : ((arr.drop off).take len).length ≤ 1000 := by rw [List.length_take, List.length_drop]; omega
  have hb1 : Nat.ble ((0 + ((arr.drop off).take len).length) * 24) 140737488355328 = true := ble_true (by omega)
  have hb2 : Nat.ble ((((arr.drop off).take len).length + List.length [(e, d)]) * 24) 140737488355328 = true := ble_true (by simp only [List.length_singleton]; omega)
  simp only [fnDq33, fnq33, ble_true h, cond_true, bindO_pure, hb1, hb2]
theorem kept_eq (K : List Sec) (hK : K.length ≤ 1000) (a : Int) (x1 x2 : List Int) (n k b4 b5 : Int) (wa x5 : List (Int × Int)) (x6 : List Sec) (x7 x8 : List Int) (x9 : List (Int × Int)) (x10 : List Sec) :
    fnDq5 (a, x1, x2, n, k, b4, b5, K, wa, x5, x6, x7, x8, x9, x10) = some K := by
  have hc : (decide (0 ≤ (K.length : Int)) && decide ((K.length : Int) ≤ (K.length : Int)) && decide (24 * (K.length : Int) ≤ 281474976710656) && decide ((K.length : Int) ≤ 9223372036854775807)) = true := by
    rw [dec_true (show 0 ≤ (K.length : Int) by omega), dec_true (show (K.length : Int) ≤ (K.length : Int) by omega), dec_true (show 24 * (K.length : Int) ≤ 281474976710656 by omega), dec_true (show (K.length : Int) ≤ 9223372036854775807 by omega)]; rfl
  simp only [fnDq5, fnq5, hc, cond_true, Int.toNat_natCast, List.length_replicate, List.take_length]
  rw [List.drop_eq_nil_of_le (by simp), List.append_nil]
end Go.Proofs.R8
namespace Go.Proofs.R8
open Go Go.AE
theorem low_w (a : Nat) (ha : a ≤ 1000) (p : Int × Int) (hp : 0 ≤ p.2 ∧ p.2 ≤ 1000) : (p.1, if 0 > IntKind.wrap .i64 (p.2 - (a : Int)) then 0 else IntKind.wrap .i64 (p.2 - (a : Int))) = low a p := by
  rw [wrap64_self (by omega)]; rfl
theorem forget_eq (a : Nat) (K : List Sec) (hK : K.length ≤ 1000) (ha : a ≤ K.length) (wa : List (Int × Int)) (hwa : wa.length ≤ 1000) (hb : ∀ p ∈ wa, 0 ≤ p.2 ∧ p.2 ≤ 1000) (q : Int) (x1 x2 : List Int) (n k b4 b5 : Int) (x5 : List (Int × Int)) (x6 : List Sec) (x7 x8 : List Int) (x9 : List (Int × Int)) (x10 : List Sec) :
    fnDq13 ((a : Int), q, x1, x2, n, k, b4, b5, K, wa, x5, x6, x7, x8, x9, x10) = some (wa.map (low a), K.drop a) := by
  have hz : IntKind.wrap .i64 ((K.length : Int) - (a : Int)) = ((K.length - a : Nat) : Int) := by rw [wrap64_self (by omega)]; omega
  have hc : (decide (0 ≤ ((K.length - a : Nat) : Int)) && decide (((K.length - a : Nat) : Int) ≤ ((K.length - a : Nat) : Int)) && decide (24 * ((K.length - a : Nat) : Int) ≤ 281474976710656) && decide (((K.length - a : Nat) : Int) ≤ 9223372036854775807)) = true := by
    rw [dec_true (show 0 ≤ ((K.length - a : Nat) : Int) by omega), dec_true (show ((K.length - a : Nat) : Int) ≤ ((K.length - a : Nat) : Int) by omega), dec_true (show 24 * ((K.length - a : Nat) : Int) ≤ 281474976710656 by omega), dec_true (show ((K.length - a : Nat) : Int) ≤ 9223372036854775807 by omega)]; rfl
  have hin : inR (a : Int) (K.length + 1) = true := inR_true (by omega)
  have hbl : Nat.ble (a + (K.length - a)) K.length = true := ble_true (by omega)
  have e2 : List.take (K.length - a) (K.drop a) = K.drop a := List.take_of_length_le (by simp)
  have hcp : ∀ z : Sec, K.drop a ++ List.drop (K.drop a).length (List.replicate (K.length - a) z) = K.drop a := by
    intro z
    have h : List.drop (K.drop a).length (List.replicate (K.length - a) z) = [] := List.drop_eq_nil_of_le (by rw [List.length_replicate, List.length_drop]; exact Nat.le_refl _)
    rw [h, List.append_nil]
  have key : ∀ o11, ∃ y, loopD (stepDq13_n0 ((a : Int), (wa.length : Int), q, x1, x2, n, k, b4, b5, K, x5, x6, x7, x8, x9, x10, o11)) FUEL (((0 : Nat) : Int), (wa.take 0).map (low a) ++ wa.drop 0) = some y ∧ y = wa.map (low a) := by
    intro o11
    refine loopD_inv (fun j v => j ≤ wa.length ∧ v = ((j : Int), (wa.take j).map (low a) ++ wa.drop j)) wa.length _ ?_ ⟨Nat.zero_le _, rfl⟩ (by omega)
    rintro j v ⟨hj, rfl⟩
    by_cases hlt : j < wa.length
    · left
      have hg : ((wa.take j).map (low a) ++ wa.drop j)[j]? = some wa[j] := get_map _ _ _ hlt
      have hin2 : inR (j : Int) ((wa.take j).map (low a) ++ wa.drop j).length = true := by rw [len_map _ _ _ (by omega)]; exact inR_true (by omega)
      refine ⟨(((j + 1 : Nat) : Int), (wa.take (j + 1)).map (low a) ++ wa.drop (j + 1)), ?_, hlt, by omega, rfl⟩
      simp only [stepDq13_n0, stepq13_n0, dec_true (show (j : Int) < (wa.length : Int) by omega), cond_true, hin2, hg, bindO_pure, wrap64_nat (show j < 9223372036854775807 by omega),
        low_w a (by omega) wa[j] (hb _ (List.getElem_mem hlt)), Int.toNat_natCast, set_map _ _ _ hlt]
    · right
      obtain rfl : j = wa.length := by omega
      exact ⟨wa.map (low a), by simp only [stepDq13_n0, stepq13_n0, dec_false (show ¬ (wa.length : Int) < (wa.length : Int) by omega), cond_false, List.take_length, List.drop_length, List.append_nil], rfl⟩
  have hloop : ∀ o11, loopD (stepDq13_n0 ((a : Int), (wa.length : Int), q, x1, x2, n, k, b4, b5, K, x5, x6, x7, x8, x9, x10, o11)) FUEL (0, wa) = some (wa.map (low a)) := by
    intro o11
    obtain ⟨y, hy, rfl⟩ := key o11
    exact hy
  simp only [fnDq13, fnq13, hz, hc, cond_true, hin, Int.toNat_natCast, hbl, List.length_replicate, e2, hcp, hloop, bindO_pure]

theorem firstI_snoc (id : Int) (x : Int × Int) : ∀ l : List (Int × Int), firstI id (l ++ [x]) = match firstI id l with
    | some (a, r) => some (a, r ++ [x])
    | none => if x.1 = id then some (x.2, l) else none
  | [] => by
    simp only [List.nil_append, firstI]
  | p :: l => by
    rw [List.cons_append, firstI, firstI]
    by_cases hp : p.1 = id
    · rw [if_pos hp, if_pos hp]
    · rw [if_neg hp, if_neg hp, firstI_snoc id x l]
      cases firstI id l with
      | some q => rfl
      | none =>
        dsimp only
        by_cases hx : x.1 = id
        · rw [if_pos hx, if_pos hx]
        · rw [if_neg hx, if_neg hx]

section
variable {errs hows : List Int} {n k : Nat}
theorem cflush_err (hn : n ≤ 1000) (hk : k ≤ 1000) (K : List Sec) (W w5 : List (Int × Int)) (wr : List Sec) (x9 : List (Int × Int)) (x10 : List Sec) {x : Int} (hx : (errs[n]?).getD 0 = x) (he : x ≠ 0) :
    fnDq3 (0, errs, hows, (n : Int), (k : Int), 0, 0, K, W, w5, wr, [], [], x9, x10) = some (.inl (x, ((n + 1 : Nat) : Int), (k : Int), 0, 0, W)) := by
  have hs : fnDq15 (0, errs, hows, (n : Int), (k : Int), 0, 0, K, W, w5, wr, [], [], x9, x10) = some (.inl ()) := rfl
  have hf : fnDq23 (errs, hows, (n : Int), (k : Int), w5, wr) = some (0, 0, x, ((n + 1 : Nat) : Int), (k : Int)) := by
    simp only [fnDq23, fnq23, next_err hn hk w5 wr hx he, bindO_pure, unP]
  simp only [fnDq3, fnq3, hs, bindO_pure, Sum.elim_inl, hf, unP, show (x != 0) = true from by rw [ibne, dec_false he]; rfl, cond_true]
theorem cflush_ok (hn : n ≤ 1000) (hk : k ≤ 1000) (K : List Sec) (hK : K.length ≤ 150) (W w5 : List (Int × Int)) (hW : W.length ≤ 150) (hb : ∀ p ∈ W, 0 ≤ p.2 ∧ p.2 ≤ 1000) (wr : List Sec) (x9 : List (Int × Int)) (x10 : List Sec) (he : (errs[n]?).getD 0 = 0) :
    fnDq3 (0, errs, hows, (n : Int), (k : Int), 0, 0, K, W, w5, wr, [], [], x9, x10) =
      if (hows[k]?).getD 0 = 2 then some (.inr (((n + 1 : Nat) : Int), ((k + 1 : Nat) : Int), 0, 0, W.map (low (K.length : Nat)), K.drop K.length))
      else if (hows[k]?).getD 0 = 1 then some (.inl (0, ((n + 1 : Nat) : Int), ((k + 1 : Nat) : Int), 0, 0, W))
      else some (.inl (0, ((n + 1 : Nat) : Int), ((k + 1 : Nat) : Int), 0, 0, W ++ [(((k + 1 : Nat) : Int), (K.length : Int))])) := by
  have hs : fnDq15 (0, errs, hows, (n : Int), (k : Int), 0, 0, K, W, w5, wr, [], [], x9, x10) = some (.inl ()) := rfl
  have hf : fnDq23 (errs, hows, (n : Int), (k : Int), w5, wr) = some (((k + 1 : Nat) : Int), (hows[k]?).getD 0, 0, ((n + 1 : Nat) : Int), ((k + 1 : Nat) : Int)) := by
    simp only [fnDq23, fnq23, next_ok hn hk w5 wr he, bindO_pure, unP]
  have hfg := forget_eq K.length K (by omega) (Nat.le_refl _) W (by omega) hb 0 errs hows ((n + 1 : Nat) : Int) ((k + 1 : Nat) : Int) 0 0 w5 wr [] [] x9 x10
  have hb2 : Nat.ble ((W.length + List.length [(((k + 1 : Nat) : Int), (K.length : Int))]) * 16) 140737488355328 = true := ble_true (by simp only [List.length_singleton]; omega)
  simp only [fnDq3, fnq3, hs, bindO_pure, Sum.elim_inl, hf, unP, show ((0 : Int) != 0) = false from rfl, cond_false]
  by_cases h2 : (hows[k]?).getD 0 = 2
  · rw [if_pos h2, show ((hows[k]?).getD 0 == 2) = true from dec_true h2, cond_true, hfg]; rfl
  · rw [if_neg h2, show ((hows[k]?).getD 0 == 2) = false from dec_false h2, cond_false]
    by_cases h1 : (hows[k]?).getD 0 = 1
    · rw [if_pos h1, show ((hows[k]?).getD 0 == 1) = true from dec_true h1, cond_true]
    · rw [if_neg h1, show ((hows[k]?).getD 0 == 1) = false from dec_false h1, cond_false, hb2, cond_true]
end
theorem flushed_eq (id how : Int) (off len : Nat) (arr : List Sec) (W : List (Int × Int)) (hW : W.length ≤ 1000) :
    fnDq32 (id, how, off, len, arr, W) = if how = 2 then some (.inl ()) else if how = 1 then some (.inr (.inl ())) else some (.inr (.inr (W ++ [(id, (len : Int))]))) := by
  have hb1 : Nat.ble ((0 + W.length) * 16) 140737488355328 = true := ble_true (by omega)
  have hb2 : Nat.ble ((W.length + List.length [(id, (len : Int))]) * 16) 140737488355328 = true := ble_true (by simp only [List.length_singleton]; omega)
  simp only [fnDq32, fnq32, nodeDq32_n0, nodeq32_n0, hb1, hb2, cond_true, bindO_pure]
  by_cases h2 : how = 2
  · rw [if_pos h2, show (how == 2) = true from dec_true h2, cond_true]
  · rw [if_neg h2, show (how == 2) = false from dec_false h2, cond_false]
    by_cases h1 : how = 1
    · rw [if_pos h1, show (how == 1) = true from dec_true h1, cond_true]
    · rw [if_neg h1, show (how == 1) = false from dec_false h1, cond_false]

/-! ### What comes -/
theorem come_none (id how : Int) (K : List Sec) (W : List (Int × Int)) (hW : W.length ≤ 1000) (hf : firstI id W = none) (q : Int) (x1 x2 : List Int) (n k b4 b5 : Int) (x5 : List (Int × Int)) (x6 : List Sec) (x7 x8 : List Int) (x9 : List (Int × Int)) (x10 : List Sec) :
    fnDq11 (id, how, q, x1, x2, n, k, b4, b5, K, W, x5, x6, x7, x8, x9, x10) = some (.inr (.inr ())) := by
  have key : ∃ y, loopD (stepDq11_n0 ((W.length : Int), q, x1, x2, n, k, b4, b5, K, W, x5, x6, x7, x8, x9, x10, id, how)) FUEL ((0 : Nat) : Int) = some y ∧ y = .inr (.inr ()) := by
    refine loopD_inv (fun j v => j ≤ W.length ∧ v = (j : Int)) W.length _ ?_ ⟨Nat.zero_le _, rfl⟩ (by omega)
    rintro j v ⟨hj, rfl⟩
    by_cases hlt : j < W.length
    · left
      have hg : W[(j : Int).toNat]? = some W[j] := by rw [Int.toNat_natCast]; exact List.getElem?_eq_getElem hlt
      have hne := firstI_none hf W[j] (List.getElem_mem hlt)
      exact ⟨((j + 1 : Nat) : Int), by simp only [stepDq11_n0, stepq11_n0, dec_true (show (j : Int) < (W.length : Int) by omega), cond_true, inR_true (show 0 ≤ (j : Int) ∧ (j : Int) < (W.length : Int) by omega), hg, bindO_pure,
        show (W[j].1 != id) = true from by rw [ibne, dec_false hne]; rfl, wrap64_nat (show j < 9223372036854775807 by omega)], hlt, by omega, rfl⟩
    · right
      exact ⟨.inr (.inr ()), by simp only [stepDq11_n0, stepq11_n0, dec_false (show ¬ (j : Int) < (W.length : Int) by omega), cond_false], rfl⟩
  obtain ⟨y, hy, rfl⟩ := key
  have hy' : loopD (stepDq11_n0 ((W.length : Int), q, x1, x2, n, k, b4, b5, K, W, x5, x6, x7, x8, x9, x10, id, how)) FUEL 0 = some (.inr (.inr ())) := hy
  simp only [fnDq11, fnq11, hy', bindO_pure, Sum.elim_inr]
theorem come_some (id how : Int) (K : List Sec) (hK : K.length ≤ 1000) (W : List (Int × Int)) (hW : W.length ≤ 1000) {a : Nat} {r : List (Int × Int)} (hf : firstI id W = some ((a : Int), r)) (ha : a ≤ K.length) (hb : ∀ p ∈ W, 0 ≤ p.2 ∧ p.2 ≤ 1000) (q : Int) (x1 x2 : List Int) (n k b4 b5 : Int) (x5 : List (Int × Int)) (x6 : List Sec) (x7 x8 : List Int) (x9 : List (Int × Int)) (x10 : List Sec) :
    fnDq11 (id, how, q, x1, x2, n, k, b4, b5, K, W, x5, x6, x7, x8, x9, x10) = if how = 2 then some (.inr (.inl (K.drop a, r.map (low a)))) else some (.inl r) := by
  obtain ⟨i, hi, h1, h2, h3, h4⟩ := firstI_some hf
  have hr : ∀ p ∈ r, p ∈ W := by
    intro p hp
    rw [h3] at hp
    rcases List.mem_append.1 hp with hp | hp
    · exact List.mem_of_mem_take hp
    · exact List.mem_of_mem_drop hp
  have hrl : r.length ≤ 1000 := by rw [h3, List.length_append, List.length_take, List.length_drop]; omega
  have hfg := forget_eq a K hK ha r hrl (fun p hp => hb p (hr p hp)) q x1 x2 n k b4 b5 x5 x6 x7 x8 x9 x10
  have key : ∃ y, loopD (stepDq11_n0 ((W.length : Int), q, x1, x2, n, k, b4, b5, K, W, x5, x6, x7, x8, x9, x10, id, how)) FUEL ((0 : Nat) : Int) = some y ∧ y = (if how = 2 then .inr (.inl (K.drop a, r.map (low a))) else .inl r) := by
    refine loopD_inv (fun j v => j ≤ i ∧ v = (j : Int)) W.length _ ?_ ⟨Nat.zero_le _, rfl⟩ (by omega)
    rintro j v ⟨hj, rfl⟩
    have hlt : j < W.length := by omega
    have hg : W[j]? = some W[j] := List.getElem?_eq_getElem hlt
    by_cases hji : j < i
    · left
      have hne := h4 j hji
      exact ⟨((j + 1 : Nat) : Int), by simp only [stepDq11_n0, stepq11_n0, dec_true (show (j : Int) < (W.length : Int) by omega), cond_true, inR_true (show 0 ≤ (j : Int) ∧ (j : Int) < (W.length : Int) by omega), Int.toNat_natCast, hg, bindO_pure,
        show (W[j].1 != id) = true from by rw [ibne, dec_false hne]; rfl, wrap64_nat (show j < 9223372036854775807 by omega)], hlt, by omega, rfl⟩
    · right
      obtain rfl : j = i := by omega
      have hn0 : (W[j].1 != id) = false := by rw [ibne, dec_true h1]; rfl
      have hx2 : List.take (j - 0) (List.drop 0 W) = W.take j := by rw [Nat.sub_zero, List.drop_zero]
      have hx3 : List.take (W.length - (j + 1)) (List.drop (j + 1) W) = W.drop (j + 1) := List.take_of_length_le (by simp)
      have hb1 : Nat.ble ((0 + (W.take j).length) * 16) 140737488355328 = true := ble_true (by rw [List.length_take]; omega)
      have hb2 : Nat.ble (((W.take j).length + (W.drop (j + 1)).length) * 16) 140737488355328 = true := ble_true (by rw [List.length_take, List.length_drop]; omega)
      refine ⟨_, ?_, rfl⟩
      simp only [stepDq11_n0, stepq11_n0, dec_true (show (j : Int) < (W.length : Int) by omega), cond_true, inR_true (show 0 ≤ (j : Int) ∧ (j : Int) < (W.length : Int) by omega), hg, bindO_pure, hn0, cond_false,
        inR_true (show 0 ≤ (j : Int) ∧ (j : Int) < ((W.length + 1 : Nat) : Int) by omega), wrap64_nat (show j < 9223372036854775807 by omega), inR_true (show 0 ≤ ((j + 1 : Nat) : Int) ∧ ((j + 1 : Nat) : Int) < ((W.length + 1 : Nat) : Int) by omega), Int.toNat_natCast,
        ble_true (show 0 + (j - 0) ≤ W.length by omega), ble_true (show (j + 1) + (W.length - (j + 1)) ≤ W.length by omega), hx2, hx3, hb1, hb2, ← h3, h2, hfg, unP]
      by_cases hh : how = 2
      · rw [if_pos hh, show (how != 2) = false from by rw [ibne, dec_true hh]; rfl, cond_false]
      · rw [if_neg hh, show (how != 2) = true from by rw [ibne, dec_false hh]; rfl, cond_true]
  obtain ⟨y, hy, rfl⟩ := key
  have hy' : loopD (stepDq11_n0 ((W.length : Int), q, x1, x2, n, k, b4, b5, K, W, x5, x6, x7, x8, x9, x10, id, how)) FUEL 0 = some (if how = 2 then .inr (.inl (K.drop a, r.map (low a))) else .inl r) := hy
  simp only [fnDq11, fnq11, hy', bindO_pure]
  by_cases hh : how = 2
  · rw [if_pos hh, if_pos hh]; rfl
  · rw [if_neg hh, if_neg hh]; rfl
end Go.Proofs.R8

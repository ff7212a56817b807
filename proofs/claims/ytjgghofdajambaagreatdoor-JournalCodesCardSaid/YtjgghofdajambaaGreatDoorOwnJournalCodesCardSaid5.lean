/- What the functions that JournalCodesCardSaid reaches compute: part 5. -/
import Derived.Test.YtjgghofdajambaaGreatDoorOwnJournalCodesCardSaid4
set_option linter.unusedVariables false
set_option linter.unusedSimpArgs false
namespace Go.Proofs.R7J
open Go Go.AE
open Go.Proofs.R7 (tabOk mixed Flaw19_works Flaw19_works_ok fnDlaw19_works Fstrings_Repeat_ok FBuilder_copyCheck_ok FBuilder_String_ok FBuilder_StringAgain_ok iter205_spec)
set_option maxRecDepth 100000
--@ marks_New
noncomputable def envq41 : Env := []
theorem envq41Ok : EnvOk Tryz.prog envq41 := EnvOk.nil
noncomputable def bq41 : Code := Tryz.f50.body.getD .skip
noncomputable def annq41 : Ann := .none
theorem annq41_ok : AnnOk Tryz.prog 14 bq41 annq41 := (annOk_none _ _ _)
abbrev Aq41 := (Int)
abbrev Yq41 := (Int) × (List Int)
def fnq41 {β : Type} : Aq41 → (Yq41 → Option β) → Option β := fun a0 exit => (bif decide ((0 : Int) ≤ IntKind.wrap .i64 (Int.tdiv (IntKind.wrap .i64 (IntKind.wrap .i64 ((if (1000 : Int) < if (0 : Int) > a0 then (0 : Int) else a0 then (1000 : Int) else if (0 : Int) > a0 then (0 : Int) else a0) + (8 : Int)) - (1 : Int))) (8 : Int))) && decide (IntKind.wrap .i64 (Int.tdiv (IntKind.wrap .i64 (IntKind.wrap .i64 ((if (1000 : Int) < if (0 : Int) > a0 then (0 : Int) else a0 then (1000 : Int) else if (0 : Int) > a0 then (0 : Int) else a0) + (8 : Int)) - (1 : Int))) (8 : Int)) ≤ IntKind.wrap .i64 (Int.tdiv (IntKind.wrap .i64 (IntKind.wrap .i64 ((if (1000 : Int) < if (0 : Int) > a0 then (0 : Int) else a0 then (1000 : Int) else if (0 : Int) > a0 then (0 : Int) else a0) + (8 : Int)) - (1 : Int))) (8 : Int))) && decide ((1 : Int) * IntKind.wrap .i64 (Int.tdiv (IntKind.wrap .i64 (IntKind.wrap .i64 ((if (1000 : Int) < if (0 : Int) > a0 then (0 : Int) else a0 then (1000 : Int) else if (0 : Int) > a0 then (0 : Int) else a0) + (8 : Int)) - (1 : Int))) (8 : Int)) ≤ (281474976710656 : Int)) && decide (IntKind.wrap .i64 (Int.tdiv (IntKind.wrap .i64 (IntKind.wrap .i64 ((if (1000 : Int) < if (0 : Int) > a0 then (0 : Int) else a0 then (1000 : Int) else if (0 : Int) > a0 then (0 : Int) else a0) + (8 : Int)) - (1 : Int))) (8 : Int)) ≤ (9223372036854775807 : Int)) then (exit (if (1000 : Int) < if (0 : Int) > a0 then (0 : Int) else a0 then (1000 : Int) else if (0 : Int) > a0 then (0 : Int) else a0,List.replicate (Int.toNat (IntKind.wrap .i64 (Int.tdiv (IntKind.wrap .i64 (IntKind.wrap .i64 ((if (1000 : Int) < if (0 : Int) > a0 then (0 : Int) else a0 then (1000 : Int) else if (0 : Int) > a0 then (0 : Int) else a0) + (8 : Int)) - (1 : Int))) (8 : Int)))) (0 : Int))) else none)
def fnDq41 (a : Aq41) : Option Yq41 := fnq41 a some
theorem fnq41_nat (a : Aq41) (k : Yq41 → Ans) : fnq41 a k = bindO (fnDq41 a) k := by
  obtain z := a
  simp only [fnDq41,fnq41,bindO_cond,bindO_assoc,bindO_none,bindO_pure,bindO_elim,bindO_unP,bindO_empty]
def argsq41 : Aq41 → List AV × List AE.Obj := fun a0 => ([.int .i64 a0],[])
def decPAq41 (l : List AV) (H : List AE.Obj) : Option {a : Aq41 // (l,H) = argsq41 a} := match l,H with
  | [.int .i64 a0],[] => some ⟨(a0),rfl⟩
  | _,_ => none
def decAq41 (l : List AV) (H : List AE.Obj) : Option Aq41 := pk (decPAq41 l H)
theorem decAq41_ok (l : List AV) (H : List AE.Obj) (a : Aq41) (h : decAq41 l H = some a) : (l,H) = argsq41 a := pk_ok (o := decPAq41 l H) h
def outq41 : Aq41 → (AV → List AE.Obj → Ans) → Yq41 → Ans := fun a0 K => unP fun o0_0_y o1_y => K (.ptr 0 0) [.cells [.int .i64 o0_0_y,.own 1],.arr (.int .u8) o1_y]
theorem fnq41_ok (a : Aq41) (K : AV → List AE.Obj → Ans) : fnE Tryz.tab envq41 noHint 0 70 50 Tryz.f50.ntmps Tryz.f50.results.toList annq41 bq41 (argsq41 a).1 (argsq41 a).2 K = fnq41 a (outq41 a K) := by kernel_rfl
def vFq41 (a : Aq41) (K : AV → List AE.Obj → Ans) : Ans := bindO (fnDq41 a) fun y => outq41 a K y
def Fq41 : List AV → List AE.Obj → (AV → List AE.Obj → Ans) → Ans := fun l H K => bindO (decAq41 l H) fun a => vFq41 a K
theorem Fq41_ok : FuncOk Tryz.prog 50 Fq41 := func_mkD (hint := noHint) (d := 0) (n := 70) mixed tabOk envq41Ok Tryz.func50 (bodySome (by kernel_rfl)) (by decide +kernel) annq41_ok decAq41_ok fnq41_ok fnq41_nat
--@ ref07_New
noncomputable def envq57 : Env := []
theorem envq57Ok : EnvOk Tryz.prog envq57 := EnvOk.nil
noncomputable def bq57 : Code := Tryz.f51.body.getD .skip
noncomputable def annq57 : Ann := .none
theorem annq57_ok : AnnOk Tryz.prog 9 bq57 annq57 := (annOk_none _ _ _)
abbrev Aq57 := (Int)
abbrev Yq57 := (List Bool)
def fnq57 {β : Type} : Aq57 → (Yq57 → Option β) → Option β := fun a0 exit => (bif decide ((0 : Int) ≤ if (1000 : Int) < if (0 : Int) > a0 then (0 : Int) else a0 then (1000 : Int) else if (0 : Int) > a0 then (0 : Int) else a0) && decide ((if (1000 : Int) < if (0 : Int) > a0 then (0 : Int) else a0 then (1000 : Int) else if (0 : Int) > a0 then (0 : Int) else a0) ≤ if (1000 : Int) < if (0 : Int) > a0 then (0 : Int) else a0 then (1000 : Int) else if (0 : Int) > a0 then (0 : Int) else a0) && decide (((1 : Int) * if (1000 : Int) < if (0 : Int) > a0 then (0 : Int) else a0 then (1000 : Int) else if (0 : Int) > a0 then (0 : Int) else a0) ≤ (281474976710656 : Int)) && decide ((if (1000 : Int) < if (0 : Int) > a0 then (0 : Int) else a0 then (1000 : Int) else if (0 : Int) > a0 then (0 : Int) else a0) ≤ (9223372036854775807 : Int)) then (exit (List.replicate (Int.toNat (if (1000 : Int) < if (0 : Int) > a0 then (0 : Int) else a0 then (1000 : Int) else if (0 : Int) > a0 then (0 : Int) else a0)) false)) else none)
def fnDq57 (a : Aq57) : Option Yq57 := fnq57 a some
theorem fnq57_nat (a : Aq57) (k : Yq57 → Ans) : fnq57 a k = bindO (fnDq57 a) k := by
  obtain z := a
  simp only [fnDq57,fnq57,bindO_cond,bindO_assoc,bindO_none,bindO_pure,bindO_elim,bindO_unP,bindO_empty]
def argsq57 : Aq57 → List AV × List AE.Obj := fun a0 => ([.int .i64 a0],[])
def decPAq57 (l : List AV) (H : List AE.Obj) : Option {a : Aq57 // (l,H) = argsq57 a} := match l,H with
  | [.int .i64 a0],[] => some ⟨(a0),rfl⟩
  | _,_ => none
def decAq57 (l : List AV) (H : List AE.Obj) : Option Aq57 := pk (decPAq57 l H)
theorem decAq57_ok (l : List AV) (H : List AE.Obj) (a : Aq57) (h : decAq57 l H = some a) : (l,H) = argsq57 a := pk_ok (o := decPAq57 l H) h
def outq57 : Aq57 → (AV → List AE.Obj → Ans) → Yq57 → Ans := fun a0 K => fun o1_y => K (.ptr 0 0) [.cells [.own 1],.arr .bool o1_y]
theorem fnq57_ok (a : Aq57) (K : AV → List AE.Obj → Ans) : fnE Tryz.tab envq57 noHint 0 70 51 Tryz.f51.ntmps Tryz.f51.results.toList annq57 bq57 (argsq57 a).1 (argsq57 a).2 K = fnq57 a (outq57 a K) := by kernel_rfl
def vFq57 (a : Aq57) (K : AV → List AE.Obj → Ans) : Ans := bindO (fnDq57 a) fun y => outq57 a K y
def Fq57 : List AV → List AE.Obj → (AV → List AE.Obj → Ans) → Ans := fun l H K => bindO (decAq57 l H) fun a => vFq57 a K
theorem Fq57_ok : FuncOk Tryz.prog 51 Fq57 := func_mkD (hint := noHint) (d := 0) (n := 70) mixed tabOk envq57Ok Tryz.func51 (bodySome (by kernel_rfl)) (by decide +kernel) annq57_ok decAq57_ok fnq57_ok fnq57_nat
--@ marks_Set_may
noncomputable def envq48 : Env := []
theorem envq48Ok : EnvOk Tryz.prog envq48 := EnvOk.nil
noncomputable def bq48 : Code := Tryz.f190.body.getD .skip
noncomputable def Lq48_n0 : Code := codeAt [1,0] bq48
noncomputable def annLq48_n0 : Ann := .none
theorem annLq48_n0_ok : AnnOk Tryz.prog 19 Lq48_n0 annLq48_n0 := (annOk_none _ _ _)
abbrev Iq48_n0 := (Int) × (Int) × (List Int)
abbrev Yq48_n0 := (Bool)
def Sq48_n0 : Iq48_n0 → St := fun (t1,o0_0,o1) => { env := [(0,.ptr 0 0),(1,.int .i64 t1)],stk := [[(0,.ptr 0 0)]],H := [.cells [.int .i64 o0_0,.own 1],.arr (.int .u8) o1],blk := 778240 }
def decPq48_n0 (s : St) : Option {x : Iq48_n0 // s = Sq48_n0 x} := match s with
  | { env := [(0,.ptr 0 0),(1,.int .i64 t1)],stk := [[(0,.ptr 0 0)]],H := [.cells [.int .i64 o0_0,.own 1],.arr (.int .u8) o1],blk := 778240 } => some ⟨(t1,o0_0,o1),rfl⟩
  | _ => none
def decq48_n0 (s : St) : Option Iq48_n0 := pk (decPq48_n0 s)
theorem decq48_n0_ok (s : St) (x : Iq48_n0) (h : decq48_n0 s = some x) : s = Sq48_n0 x := pk_ok (o := decPq48_n0 s) h
def outq48_n0 : Iq48_n0 → (Ex → St → Ans) → Yq48_n0 → Ans := fun (t1,o0_0,o1) K => fun t4_y => K (Ex.norm) { env := [(4,.bool t4_y)],stk := [[(0,.ptr 0 0)]],H := [.cells [.int .i64 o0_0,.own 1],.arr (.int .u8) o1],blk := 778240 }
def nodeq48_n0 {β : Type} : Iq48_n0 → (Yq48_n0 → Option β) → Option β := fun (t1,o0_0,o1) exit => (bif decide (t1 ≥ (0 : Int)) then (exit (decide (t1 < o0_0))) else (exit (false)))
def nodeDq48_n0 (i : Iq48_n0) : Option Yq48_n0 := nodeq48_n0 i some
theorem nodeq48_n0_nat (i : Iq48_n0) (k : Yq48_n0 → Ans) : nodeq48_n0 i k = bindO (nodeDq48_n0 i) k := by
  obtain ⟨t1,o0_0,o1⟩ := i
  simp only [nodeDq48_n0,nodeq48_n0,bindO_cond,bindO_assoc,bindO_none,bindO_pure,bindO_elim,bindO_unP,bindO_empty]
theorem nodeq48_n0_ok (i : Iq48_n0) (K : Ex → St → Ans) : codeI Tryz.tab envq48 noHint (codeD Tryz.tab envq48 noHint 0 64) 70 19 annLq48_n0 Lq48_n0 (weakP 2 (exk [4] [4] []) K) (Sq48_n0 i) = nodeq48_n0 i (outq48_n0 i K) := by kernel_rfl
theorem GNq48_n0_ok : CSum Tryz.prog 19 Lq48_n0 (sumN decq48_n0 nodeDq48_n0 outq48_n0) := csum_node mixed tabOk envq48Ok 2 (exk [4] [4] []) annLq48_n0_ok decq48_n0_ok nodeq48_n0_ok nodeq48_n0_nat
noncomputable def Gq48_n0 : (Ex → St → Ans) → St → Ans := (sumN decq48_n0 nodeDq48_n0 outq48_n0)
theorem Gq48_n0_ok : CSum Tryz.prog 19 Lq48_n0 Gq48_n0 := GNq48_n0_ok
noncomputable def annq48 : Ann := (.seq .none (.seq (.cut 2 [0,1] Gq48_n0) .none))
theorem annq48_ok : AnnOk Tryz.prog 19 bq48 annq48 := ⟨(annOk_none _ _ _),⟨Gq48_n0_ok,(annOk_none _ _ _)⟩⟩
abbrev Aq48 := (Int) × (Int) × (List Int)
abbrev Yq48 := (Bool)
def fnq48 {β : Type} : Aq48 → (Yq48 → Option β) → Option β := fun (a1,o0_0,o1) exit => (bindO (nodeDq48_n0 (a1,o0_0,o1)) fun t4 => (exit (t4)))
def fnDq48 (a : Aq48) : Option Yq48 := fnq48 a some
theorem fnq48_nat (a : Aq48) (k : Yq48 → Ans) : fnq48 a k = bindO (fnDq48 a) k := by
  obtain ⟨a1,o0_0,o1⟩ := a
  simp only [fnDq48,fnq48,bindO_cond,bindO_assoc,bindO_none,bindO_pure,bindO_elim,bindO_unP,bindO_empty]
def argsq48 : Aq48 → List AV × List AE.Obj := fun (a1,o0_0,o1) => ([.ptr 0 0,.int .i64 a1],[.cells [.int .i64 o0_0,.own 1],.arr (.int .u8) o1])
def decPAq48 (l : List AV) (H : List AE.Obj) : Option {a : Aq48 // (l,H) = argsq48 a} := match l,H with
  | [.ptr 0 0,.int .i64 a1],[.cells [.int .i64 o0_0,.own 1],.arr (.int .u8) o1] => some ⟨(a1,o0_0,o1),rfl⟩
  | _,_ => none
def decAq48 (l : List AV) (H : List AE.Obj) : Option Aq48 := pk (decPAq48 l H)
theorem decAq48_ok (l : List AV) (H : List AE.Obj) (a : Aq48) (h : decAq48 l H = some a) : (l,H) = argsq48 a := pk_ok (o := decPAq48 l H) h
def outq48 : Aq48 → (AV → List AE.Obj → Ans) → Yq48 → Ans := fun (a1,o0_0,o1) K => fun r_y => K (.bool r_y) [.cells [.int .i64 o0_0,.own 1],.arr (.int .u8) o1]
theorem fnq48_ok (a : Aq48) (K : AV → List AE.Obj → Ans) : fnE Tryz.tab envq48 noHint 0 70 190 Tryz.f190.ntmps Tryz.f190.results.toList annq48 bq48 (argsq48 a).1 (argsq48 a).2 K = fnq48 a (outq48 a K) := by kernel_rfl
def vFq48 (a : Aq48) (K : AV → List AE.Obj → Ans) : Ans := bindO (fnDq48 a) fun y => outq48 a K y
def Fq48 : List AV → List AE.Obj → (AV → List AE.Obj → Ans) → Ans := fun l H K => bindO (decAq48 l H) fun a => vFq48 a K
theorem Fq48_ok : FuncOk Tryz.prog 190 Fq48 := func_mkD (hint := noHint) (d := 0) (n := 70) mixed tabOk envq48Ok Tryz.func190 (bodySome (by kernel_rfl)) (by decide +kernel) annq48_ok decAq48_ok fnq48_ok fnq48_nat
--@ marks_place
noncomputable def envq50 : Env := []
theorem envq50Ok : EnvOk Tryz.prog envq50 := EnvOk.nil
noncomputable def bq50 : Code := Tryz.f191.body.getD .skip
noncomputable def annq50 : Ann := .none
theorem annq50_ok : AnnOk Tryz.prog 9 bq50 annq50 := (annOk_none _ _ _)
abbrev Aq50 := (Int)
abbrev Yq50 := (Int) × (Int)
def fnq50 {β : Type} : Aq50 → (Yq50 → Option β) → Option β := fun a0 exit => (bif decide (Int.tmod a0 (8 : Int) < (0 : Int)) then none else (exit (IntKind.wrap .i64 (Int.tdiv a0 (8 : Int)),IntKind.wrap .u8 ((1 : Int) * (2 : Int) ^ min (Int.toNat (Int.tmod a0 (8 : Int))) (8 : Nat)))))
def fnDq50 (a : Aq50) : Option Yq50 := fnq50 a some
theorem fnq50_nat (a : Aq50) (k : Yq50 → Ans) : fnq50 a k = bindO (fnDq50 a) k := by
  obtain z := a
  simp only [fnDq50,fnq50,bindO_cond,bindO_assoc,bindO_none,bindO_pure,bindO_elim,bindO_unP,bindO_empty]
def argsq50 : Aq50 → List AV := fun a0 => [.int .i64 a0]
def decPAq50 (l : List AV) : Option {a : Aq50 // l = argsq50 a} := match l with
  | [.int .i64 a0] => some ⟨(a0),rfl⟩
  | _ => none
def decAq50 (l : List AV) : Option Aq50 := pk (decPAq50 l)
theorem decAq50_ok (l : List AV) (a : Aq50) (h : decAq50 l = some a) : l = argsq50 a := pk_ok (o := decPAq50 l) h
def rendq50 : Aq50 → Yq50 → AV := fun a0 => unP fun r_0_y r_1_y => .tup [.int .i64 r_0_y,.int .u8 r_1_y]
theorem rendq50_ok : ∀ (a : Aq50) (y : Yq50),(rendq50 a y).closed1 = true := by
  rintro z y <;> first | rfl | exact Empty.elim y
theorem fnq50_ok (a : Aq50) : fnE Tryz.tab envq50 noHint 0 70 191 Tryz.f191.ntmps Tryz.f191.results.toList annq50 bq50 (argsq50 a) [] (fun v _ => some (v,[])) = fnq50 a (fun y => some (rendq50 a y,[])) := by kernel_rfl
def vFq50 (a : Aq50) (K : AV → Ans) : Ans := bindO (fnDq50 a) fun y => K (rendq50 a y)
def Fq50 : List AV → (AV → Ans) → Ans := fun l K => bindO (decAq50 l) fun a => vFq50 a K
theorem Fq50_ok : PureOk Tryz.prog 191 Fq50 := pure_mkD (hint := noHint) (d := 0) (n := 70) mixed tabOk envq50Ok Tryz.func191 (bodySome (by kernel_rfl)) (by decide +kernel) annq50_ok decAq50_ok fnq50_ok fnq50_nat rendq50_ok
--@ marks_Set_Has
noncomputable def envq46 : Env := [(190,.func Fq48),(191,.pure Fq50)]
theorem envq46Ok : EnvOk Tryz.prog envq46 := EnvOk.cons Fq48_ok (EnvOk.cons Fq50_ok (EnvOk.nil))
noncomputable def bq46 : Code := Tryz.f132.body.getD .skip
noncomputable def annq46 : Ann := .none
theorem annq46_ok : AnnOk Tryz.prog 26 bq46 annq46 := (annOk_none _ _ _)
abbrev Aq46 := (Int) × (Int) × (List Int)
abbrev Yq46 := (Bool)
def fnq46 {β : Type} : Aq46 → (Yq46 → Option β) → Option β := fun (a1,o0_0,o1) exit => (bindO (fnDq48 (a1,o0_0,o1)) fun r => (bif !r then (exit (false)) else (bindO (fnDq50 (a1)) (unP fun r_0 r_1 => (bif inR r_0 (List.length o1) then (bindO (o1[Int.toNat r_0]?) fun x => (exit (IntKind.wrap .u8 (↑(Int.toNat (x % (256 : Int)) &&& Int.toNat (r_1 % (256 : Int))) : Int) != (0 : Int)))) else none)))))
def fnDq46 (a : Aq46) : Option Yq46 := fnq46 a some
theorem fnq46_nat (a : Aq46) (k : Yq46 → Ans) : fnq46 a k = bindO (fnDq46 a) k := by
  obtain ⟨a1,o0_0,o1⟩ := a
  simp only [fnDq46,fnq46,bindO_cond,bindO_assoc,bindO_none,bindO_pure,bindO_elim,bindO_unP,bindO_empty]
def argsq46 : Aq46 → List AV × List AE.Obj := fun (a1,o0_0,o1) => ([.ptr 0 0,.int .i64 a1],[.cells [.int .i64 o0_0,.own 1],.arr (.int .u8) o1])
def decPAq46 (l : List AV) (H : List AE.Obj) : Option {a : Aq46 // (l,H) = argsq46 a} := match l,H with
  | [.ptr 0 0,.int .i64 a1],[.cells [.int .i64 o0_0,.own 1],.arr (.int .u8) o1] => some ⟨(a1,o0_0,o1),rfl⟩
  | _,_ => none
def decAq46 (l : List AV) (H : List AE.Obj) : Option Aq46 := pk (decPAq46 l H)
theorem decAq46_ok (l : List AV) (H : List AE.Obj) (a : Aq46) (h : decAq46 l H = some a) : (l,H) = argsq46 a := pk_ok (o := decPAq46 l H) h
def outq46 : Aq46 → (AV → List AE.Obj → Ans) → Yq46 → Ans := fun (a1,o0_0,o1) K => fun r_y => K (.bool r_y) [.cells [.int .i64 o0_0,.own 1],.arr (.int .u8) o1]
theorem fnq46_ok (a : Aq46) (K : AV → List AE.Obj → Ans) : fnE Tryz.tab envq46 noHint 0 70 132 Tryz.f132.ntmps Tryz.f132.results.toList annq46 bq46 (argsq46 a).1 (argsq46 a).2 K = fnq46 a (outq46 a K) := by kernel_rfl
def vFq46 (a : Aq46) (K : AV → List AE.Obj → Ans) : Ans := bindO (fnDq46 a) fun y => outq46 a K y
def Fq46 : List AV → List AE.Obj → (AV → List AE.Obj → Ans) → Ans := fun l H K => bindO (decAq46 l H) fun a => vFq46 a K
theorem Fq46_ok : FuncOk Tryz.prog 132 Fq46 := func_mkD (hint := noHint) (d := 0) (n := 70) mixed tabOk envq46Ok Tryz.func132 (bodySome (by kernel_rfl)) (by decide +kernel) annq46_ok decAq46_ok fnq46_ok fnq46_nat
--@ marks_Set_turn
noncomputable def envq49 : Env := [(190,.func Fq48),(191,.pure Fq50),(132,.func Fq46)]
theorem envq49Ok : EnvOk Tryz.prog envq49 := EnvOk.cons Fq48_ok (EnvOk.cons Fq50_ok (EnvOk.cons Fq46_ok (EnvOk.nil)))
noncomputable def bq49 : Code := Tryz.f134.body.getD .skip
noncomputable def Lq49_n0 : Code := codeAt [1,0,0] bq49
noncomputable def annLq49_n0 : Ann := .none
theorem annLq49_n0_ok : AnnOk Tryz.prog 35 Lq49_n0 annLq49_n0 := (annOk_none _ _ _)
abbrev Iq49_n0 := (Int) × (Bool) × (Int) × (List Int)
abbrev Yq49_n0 := (Bool)
def Sq49_n0 : Iq49_n0 → St := fun (t1,t2,o0_0,o1) => { env := [(0,.ptr 0 0),(1,.int .i64 t1),(2,.bool t2)],stk := [[(0,.ptr 0 0)]],H := [.cells [.int .i64 o0_0,.own 1],.arr (.int .u8) o1],blk := 548864 }
def decPq49_n0 (s : St) : Option {x : Iq49_n0 // s = Sq49_n0 x} := match s with
  | { env := [(0,.ptr 0 0),(1,.int .i64 t1),(2,.bool t2)],stk := [[(0,.ptr 0 0)]],H := [.cells [.int .i64 o0_0,.own 1],.arr (.int .u8) o1],blk := 548864 } => some ⟨(t1,t2,o0_0,o1),rfl⟩
  | _ => none
def decq49_n0 (s : St) : Option Iq49_n0 := pk (decPq49_n0 s)
theorem decq49_n0_ok (s : St) (x : Iq49_n0) (h : decq49_n0 s = some x) : s = Sq49_n0 x := pk_ok (o := decPq49_n0 s) h
def outq49_n0 : Iq49_n0 → (Ex → St → Ans) → Yq49_n0 → Ans := fun (t1,t2,o0_0,o1) K => fun t19_y => K (Ex.norm) { env := [(0,.ptr 0 0),(1,.int .i64 t1),(19,.bool t19_y)],stk := [[(0,.ptr 0 0)]],H := [.cells [.int .i64 o0_0,.own 1],.arr (.int .u8) o1],blk := 548864 }
def nodeq49_n0 {β : Type} : Iq49_n0 → (Yq49_n0 → Option β) → Option β := fun (t1,t2,o0_0,o1) exit => (bindO (fnDq48 (t1,o0_0,o1)) fun r => (bif !r then (exit (true)) else (bindO (fnDq46 (t1,o0_0,o1)) fun r_2 => (exit (r_2 == t2)))))
def nodeDq49_n0 (i : Iq49_n0) : Option Yq49_n0 := nodeq49_n0 i some
theorem nodeq49_n0_nat (i : Iq49_n0) (k : Yq49_n0 → Ans) : nodeq49_n0 i k = bindO (nodeDq49_n0 i) k := by
  obtain ⟨t1,t2,o0_0,o1⟩ := i
  simp only [nodeDq49_n0,nodeq49_n0,bindO_cond,bindO_assoc,bindO_none,bindO_pure,bindO_elim,bindO_unP,bindO_empty]
theorem nodeq49_n0_ok (i : Iq49_n0) (K : Ex → St → Ans) : codeI Tryz.tab envq49 noHint (codeD Tryz.tab envq49 noHint 0 64) 70 35 annLq49_n0 Lq49_n0 (weakP 2 (exk [0,1,19] [6] []) K) (Sq49_n0 i) = nodeq49_n0 i (outq49_n0 i K) := by kernel_rfl
theorem GNq49_n0_ok : CSum Tryz.prog 35 Lq49_n0 (sumN decq49_n0 nodeDq49_n0 outq49_n0) := csum_node mixed tabOk envq49Ok 2 (exk [0,1,19] [6] []) annLq49_n0_ok decq49_n0_ok nodeq49_n0_ok nodeq49_n0_nat
noncomputable def Gq49_n0 : (Ex → St → Ans) → St → Ans := (sumN decq49_n0 nodeDq49_n0 outq49_n0)
theorem Gq49_n0_ok : CSum Tryz.prog 35 Lq49_n0 Gq49_n0 := GNq49_n0_ok
noncomputable def annq49 : Ann := (.seq .none (.seq (.seq (.cut 2 [0,1,2] Gq49_n0) .none) .none))
theorem annq49_ok : AnnOk Tryz.prog 35 bq49 annq49 := ⟨(annOk_none _ _ _),⟨⟨Gq49_n0_ok,(annOk_none _ _ _)⟩,(annOk_none _ _ _)⟩⟩
abbrev Aq49 := (Int) × (Bool) × (Int) × (List Int)
abbrev Yq49 := (Bool) × (List Int)
def fnq49 {β : Type} : Aq49 → (Yq49 → Option β) → Option β := fun (a1,a2,o0_0,o1) exit => (bindO (nodeDq49_n0 (a1,a2,o0_0,o1)) fun t19 => (bif t19 then (exit (false,o1)) else (bindO (fnDq50 (a1)) (unP fun r_0 r_1 => (bif inR r_0 (List.length o1) then (bindO (o1[Int.toNat r_0]?) fun x => (bif inR r_0 (List.length o1) then (bindO (o1[Int.toNat r_0]?) fun x_2 => (exit (true,List.set o1 (Int.toNat r_0) (IntKind.wrap .u8 (↑(Int.toNat (x % (256 : Int)) ^^^ Int.toNat (r_1 % (256 : Int))) : Int))))) else none)) else none)))))
def fnDq49 (a : Aq49) : Option Yq49 := fnq49 a some
theorem fnq49_nat (a : Aq49) (k : Yq49 → Ans) : fnq49 a k = bindO (fnDq49 a) k := by
  obtain ⟨a1,a2,o0_0,o1⟩ := a
  simp only [fnDq49,fnq49,bindO_cond,bindO_assoc,bindO_none,bindO_pure,bindO_elim,bindO_unP,bindO_empty]
def argsq49 : Aq49 → List AV × List AE.Obj := fun (a1,a2,o0_0,o1) => ([.ptr 0 0,.int .i64 a1,.bool a2],[.cells [.int .i64 o0_0,.own 1],.arr (.int .u8) o1])
def decPAq49 (l : List AV) (H : List AE.Obj) : Option {a : Aq49 // (l,H) = argsq49 a} := match l,H with
  | [.ptr 0 0,.int .i64 a1,.bool a2],[.cells [.int .i64 o0_0,.own 1],.arr (.int .u8) o1] => some ⟨(a1,a2,o0_0,o1),rfl⟩
  | _,_ => none
def decAq49 (l : List AV) (H : List AE.Obj) : Option Aq49 := pk (decPAq49 l H)
theorem decAq49_ok (l : List AV) (H : List AE.Obj) (a : Aq49) (h : decAq49 l H = some a) : (l,H) = argsq49 a := pk_ok (o := decPAq49 l H) h
def outq49 : Aq49 → (AV → List AE.Obj → Ans) → Yq49 → Ans := fun (a1,a2,o0_0,o1) K => unP fun r_y o1_y => K (.bool r_y) [.cells [.int .i64 o0_0,.own 1],.arr (.int .u8) o1_y]
theorem fnq49_ok (a : Aq49) (K : AV → List AE.Obj → Ans) : fnE Tryz.tab envq49 noHint 0 70 134 Tryz.f134.ntmps Tryz.f134.results.toList annq49 bq49 (argsq49 a).1 (argsq49 a).2 K = fnq49 a (outq49 a K) := by kernel_rfl
def vFq49 (a : Aq49) (K : AV → List AE.Obj → Ans) : Ans := bindO (fnDq49 a) fun y => outq49 a K y
def Fq49 : List AV → List AE.Obj → (AV → List AE.Obj → Ans) → Ans := fun l H K => bindO (decAq49 l H) fun a => vFq49 a K
theorem Fq49_ok : FuncOk Tryz.prog 134 Fq49 := func_mkD (hint := noHint) (d := 0) (n := 70) mixed tabOk envq49Ok Tryz.func134 (bodySome (by kernel_rfl)) (by decide +kernel) annq49_ok decAq49_ok fnq49_ok fnq49_nat
--@ marks_Set_Add
noncomputable def envq43 : Env := [(134,.func Fq49)]
theorem envq43Ok : EnvOk Tryz.prog envq43 := EnvOk.cons Fq49_ok (EnvOk.nil)
noncomputable def bq43 : Code := Tryz.f52.body.getD .skip
noncomputable def annq43 : Ann := .none
theorem annq43_ok : AnnOk Tryz.prog 8 bq43 annq43 := (annOk_none _ _ _)
abbrev Aq43 := (Int) × (Int) × (List Int)
abbrev Yq43 := (Bool) × (List Int)
def fnq43 {β : Type} : Aq43 → (Yq43 → Option β) → Option β := fun (a1,o0_0,o1) exit => (bindO (fnDq49 (a1,true,o0_0,o1)) (unP fun r o1_2 => (exit (r,o1_2))))
def fnDq43 (a : Aq43) : Option Yq43 := fnq43 a some
theorem fnq43_nat (a : Aq43) (k : Yq43 → Ans) : fnq43 a k = bindO (fnDq43 a) k := by
  obtain ⟨a1,o0_0,o1⟩ := a
  simp only [fnDq43,fnq43,bindO_cond,bindO_assoc,bindO_none,bindO_pure,bindO_elim,bindO_unP,bindO_empty]
def argsq43 : Aq43 → List AV × List AE.Obj := fun (a1,o0_0,o1) => ([.ptr 0 0,.int .i64 a1],[.cells [.int .i64 o0_0,.own 1],.arr (.int .u8) o1])
def decPAq43 (l : List AV) (H : List AE.Obj) : Option {a : Aq43 // (l,H) = argsq43 a} := match l,H with
  | [.ptr 0 0,.int .i64 a1],[.cells [.int .i64 o0_0,.own 1],.arr (.int .u8) o1] => some ⟨(a1,o0_0,o1),rfl⟩
  | _,_ => none
def decAq43 (l : List AV) (H : List AE.Obj) : Option Aq43 := pk (decPAq43 l H)
theorem decAq43_ok (l : List AV) (H : List AE.Obj) (a : Aq43) (h : decAq43 l H = some a) : (l,H) = argsq43 a := pk_ok (o := decPAq43 l H) h
def outq43 : Aq43 → (AV → List AE.Obj → Ans) → Yq43 → Ans := fun (a1,o0_0,o1) K => unP fun r_y o1_y => K (.bool r_y) [.cells [.int .i64 o0_0,.own 1],.arr (.int .u8) o1_y]
theorem fnq43_ok (a : Aq43) (K : AV → List AE.Obj → Ans) : fnE Tryz.tab envq43 noHint 0 70 52 Tryz.f52.ntmps Tryz.f52.results.toList annq43 bq43 (argsq43 a).1 (argsq43 a).2 K = fnq43 a (outq43 a K) := by kernel_rfl
def vFq43 (a : Aq43) (K : AV → List AE.Obj → Ans) : Ans := bindO (fnDq43 a) fun y => outq43 a K y
def Fq43 : List AV → List AE.Obj → (AV → List AE.Obj → Ans) → Ans := fun l H K => bindO (decAq43 l H) fun a => vFq43 a K
theorem Fq43_ok : FuncOk Tryz.prog 52 Fq43 := func_mkD (hint := noHint) (d := 0) (n := 70) mixed tabOk envq43Ok Tryz.func52 (bodySome (by kernel_rfl)) (by decide +kernel) annq43_ok decAq43_ok fnq43_ok fnq43_nat
--@ ref07_Set_Put
noncomputable def envq60 : Env := []
theorem envq60Ok : EnvOk Tryz.prog envq60 := EnvOk.nil
noncomputable def bq60 : Code := Tryz.f53.body.getD .skip
noncomputable def Lq60_n0 : Code := codeAt [1,0,0] bq60
noncomputable def annLq60_n0 : Ann := .none
theorem annLq60_n0_ok : AnnOk Tryz.prog 44 Lq60_n0 annLq60_n0 := (annOk_none _ _ _)
abbrev Iq60_n0 := (Int) × (Bool) × (List Bool)
abbrev Yq60_n0 := (Bool)
def Sq60_n0 : Iq60_n0 → St := fun (t1,t2,o1) => { env := [(0,.ptr 0 0),(1,.int .i64 t1),(2,.bool t2)],stk := [[(0,.ptr 0 0)]],H := [.cells [.own 1],.arr .bool o1],blk := 217088 }
def decPq60_n0 (s : St) : Option {x : Iq60_n0 // s = Sq60_n0 x} := match s with
  | { env := [(0,.ptr 0 0),(1,.int .i64 t1),(2,.bool t2)],stk := [[(0,.ptr 0 0)]],H := [.cells [.own 1],.arr .bool o1],blk := 217088 } => some ⟨(t1,t2,o1),rfl⟩
  | _ => none
def decq60_n0 (s : St) : Option Iq60_n0 := pk (decPq60_n0 s)
theorem decq60_n0_ok (s : St) (x : Iq60_n0) (h : decq60_n0 s = some x) : s = Sq60_n0 x := pk_ok (o := decPq60_n0 s) h
def outq60_n0 : Iq60_n0 → (Ex → St → Ans) → Yq60_n0 → Ans := fun (t1,t2,o1) K => fun t29_y => K (Ex.norm) { env := [(0,.ptr 0 0),(1,.int .i64 t1),(2,.bool t2),(29,.bool t29_y)],stk := [[(0,.ptr 0 0)]],H := [.cells [.own 1],.arr .bool o1],blk := 217088 }
def nodeq60_n0 {β : Type} : Iq60_n0 → (Yq60_n0 → Option β) → Option β := fun (t1,t2,o1) exit => (bif decide (t1 < (0 : Int)) then (exit (true)) else (bif decide (t1 ≥ (↑(List.length o1) : Int)) then (exit (true)) else (bif inR t1 (List.length o1) then (bindO (o1[Int.toNat t1]?) fun x => (exit (x == t2))) else none)))
def nodeDq60_n0 (i : Iq60_n0) : Option Yq60_n0 := nodeq60_n0 i some
theorem nodeq60_n0_nat (i : Iq60_n0) (k : Yq60_n0 → Ans) : nodeq60_n0 i k = bindO (nodeDq60_n0 i) k := by
  obtain ⟨t1,t2,o1⟩ := i
  simp only [nodeDq60_n0,nodeq60_n0,bindO_cond,bindO_assoc,bindO_none,bindO_pure,bindO_elim,bindO_unP,bindO_empty]
theorem nodeq60_n0_ok (i : Iq60_n0) (K : Ex → St → Ans) : codeI Tryz.tab envq60 noHint (codeD Tryz.tab envq60 noHint 0 64) 70 44 annLq60_n0 Lq60_n0 (weakP 2 (exk [0,1,2,29] [6] []) K) (Sq60_n0 i) = nodeq60_n0 i (outq60_n0 i K) := by kernel_rfl
theorem GNq60_n0_ok : CSum Tryz.prog 44 Lq60_n0 (sumN decq60_n0 nodeDq60_n0 outq60_n0) := csum_node mixed tabOk envq60Ok 2 (exk [0,1,2,29] [6] []) annLq60_n0_ok decq60_n0_ok nodeq60_n0_ok nodeq60_n0_nat
noncomputable def Gq60_n0 : (Ex → St → Ans) → St → Ans := (sumN decq60_n0 nodeDq60_n0 outq60_n0)
theorem Gq60_n0_ok : CSum Tryz.prog 44 Lq60_n0 Gq60_n0 := GNq60_n0_ok
noncomputable def annq60 : Ann := (.seq .none (.seq (.seq (.cut 2 [0,1,2] Gq60_n0) .none) .none))
theorem annq60_ok : AnnOk Tryz.prog 44 bq60 annq60 := ⟨(annOk_none _ _ _),⟨⟨Gq60_n0_ok,(annOk_none _ _ _)⟩,(annOk_none _ _ _)⟩⟩
abbrev Aq60 := (Int) × (Bool) × (List Bool)
abbrev Yq60 := (Unit) ⊕ ((List Bool))
def fnq60 {β : Type} : Aq60 → (Yq60 → Option β) → Option β := fun (a1,a2,o1) exit => (bindO (nodeDq60_n0 (a1,a2,o1)) fun t29 => (bif t29 then (exit (Sum.inl ())) else (bif Nat.ble (((0 : Nat) + List.length o1) * (1 : Nat)) (140737488355328 : Nat) then (bif inR a1 (List.length o1) then (bindO (o1[Int.toNat a1]?) fun x => (exit (Sum.inr (List.set o1 (Int.toNat a1) a2)))) else none) else none)))
def fnDq60 (a : Aq60) : Option Yq60 := fnq60 a some
theorem fnq60_nat (a : Aq60) (k : Yq60 → Ans) : fnq60 a k = bindO (fnDq60 a) k := by
  obtain ⟨a1,a2,o1⟩ := a
  simp only [fnDq60,fnq60,bindO_cond,bindO_assoc,bindO_none,bindO_pure,bindO_elim,bindO_unP,bindO_empty]
def argsq60 : Aq60 → List AV × List AE.Obj := fun (a1,a2,o1) => ([.ptr 0 0,.int .i64 a1,.bool a2],[.cells [.own 1],.arr .bool o1])
def decPAq60 (l : List AV) (H : List AE.Obj) : Option {a : Aq60 // (l,H) = argsq60 a} := match l,H with
  | [.ptr 0 0,.int .i64 a1,.bool a2],[.cells [.own 1],.arr .bool o1] => some ⟨(a1,a2,o1),rfl⟩
  | _,_ => none
def decAq60 (l : List AV) (H : List AE.Obj) : Option Aq60 := pk (decPAq60 l H)
theorem decAq60_ok (l : List AV) (H : List AE.Obj) (a : Aq60) (h : decAq60 l H = some a) : (l,H) = argsq60 a := pk_ok (o := decPAq60 l H) h
def outq60 : Aq60 → (AV → List AE.Obj → Ans) → Yq60 → Ans := fun (a1,a2,o1) K => (Sum.elim (fun _ => K (.bool (false)) [.cells [.own 1],.arr .bool o1]) (fun o2_y => K (.bool (true)) [.cells [.own 2],.arr .bool o1,.arr .bool o2_y]))
theorem fnq60_ok (a : Aq60) (K : AV → List AE.Obj → Ans) : fnE Tryz.tab envq60 noHint 0 70 53 Tryz.f53.ntmps Tryz.f53.results.toList annq60 bq60 (argsq60 a).1 (argsq60 a).2 K = fnq60 a (outq60 a K) := by kernel_rfl
def vFq60 (a : Aq60) (K : AV → List AE.Obj → Ans) : Ans := bindO (fnDq60 a) fun y => outq60 a K y
def Fq60 : List AV → List AE.Obj → (AV → List AE.Obj → Ans) → Ans := fun l H K => bindO (decAq60 l H) fun a => vFq60 a K
theorem Fq60_ok : FuncOk Tryz.prog 53 Fq60 := func_mkD (hint := noHint) (d := 0) (n := 70) mixed tabOk envq60Ok Tryz.func53 (bodySome (by kernel_rfl)) (by decide +kernel) annq60_ok decAq60_ok fnq60_ok fnq60_nat
--@ marks_Set_Many
noncomputable def envq47 : Env := []
theorem envq47Ok : EnvOk Tryz.prog envq47 := EnvOk.nil
noncomputable def bq47 : Code := Tryz.f60.body.getD .skip
noncomputable def annq47 : Ann := .none
theorem annq47_ok : AnnOk Tryz.prog 9 bq47 annq47 := (annOk_none _ _ _)
abbrev Aq47 := (Int) × (List Int)
abbrev Yq47 := Unit
def fnq47 {β : Type} : Aq47 → (Yq47 → Option β) → Option β := fun (o0_0,o1) exit => (exit ())
def fnDq47 (a : Aq47) : Option Yq47 := fnq47 a some
theorem fnq47_nat (a : Aq47) (k : Yq47 → Ans) : fnq47 a k = bindO (fnDq47 a) k := by
  obtain ⟨o0_0,o1⟩ := a
  simp only [fnDq47,fnq47,bindO_cond,bindO_assoc,bindO_none,bindO_pure,bindO_elim,bindO_unP,bindO_empty]
def argsq47 : Aq47 → List AV × List AE.Obj := fun (o0_0,o1) => ([.ptr 0 0],[.cells [.int .i64 o0_0,.own 1],.arr (.int .u8) o1])
def decPAq47 (l : List AV) (H : List AE.Obj) : Option {a : Aq47 // (l,H) = argsq47 a} := match l,H with
  | [.ptr 0 0],[.cells [.int .i64 o0_0,.own 1],.arr (.int .u8) o1] => some ⟨(o0_0,o1),rfl⟩
  | _,_ => none
def decAq47 (l : List AV) (H : List AE.Obj) : Option Aq47 := pk (decPAq47 l H)
theorem decAq47_ok (l : List AV) (H : List AE.Obj) (a : Aq47) (h : decAq47 l H = some a) : (l,H) = argsq47 a := pk_ok (o := decPAq47 l H) h
def outq47 : Aq47 → (AV → List AE.Obj → Ans) → Yq47 → Ans := fun (o0_0,o1) K => fun _ => K (.int .i64 o0_0) [.cells [.int .i64 o0_0,.own 1],.arr (.int .u8) o1]
theorem fnq47_ok (a : Aq47) (K : AV → List AE.Obj → Ans) : fnE Tryz.tab envq47 noHint 0 70 60 Tryz.f60.ntmps Tryz.f60.results.toList annq47 bq47 (argsq47 a).1 (argsq47 a).2 K = fnq47 a (outq47 a K) := by kernel_rfl
def vFq47 (a : Aq47) (K : AV → List AE.Obj → Ans) : Ans := bindO (fnDq47 a) fun y => outq47 a K y
def Fq47 : List AV → List AE.Obj → (AV → List AE.Obj → Ans) → Ans := fun l H K => bindO (decAq47 l H) fun a => vFq47 a K
theorem Fq47_ok : FuncOk Tryz.prog 60 Fq47 := func_mkD (hint := noHint) (d := 0) (n := 70) mixed tabOk envq47Ok Tryz.func60 (bodySome (by kernel_rfl)) (by decide +kernel) annq47_ok decAq47_ok fnq47_ok fnq47_nat
--@ field_width
noncomputable def envq20 : Env := []
theorem envq20Ok : EnvOk Tryz.prog envq20 := EnvOk.nil
noncomputable def bq20 : Code := Tryz.f189.body.getD .skip
noncomputable def Lq20_n0 : Code := codeAt [1,0] bq20
noncomputable def annLq20_n0 : Ann := .none
theorem annLq20_n0_ok : AnnOk Tryz.prog 9 Lq20_n0 annLq20_n0 := (annOk_none _ _ _)
abbrev Iq20_n0 := (Int)
abbrev Yq20_n0 := (Bool)
def Sq20_n0 : Iq20_n0 → St := fun t0 => { env := [(0,.int .i64 t0)],stk := [[]],H := [],blk := 774144 }
def decPq20_n0 (s : St) : Option {x : Iq20_n0 // s = Sq20_n0 x} := match s with
  | { env := [(0,.int .i64 t0)],stk := [[]],H := [],blk := 774144 } => some ⟨(t0),rfl⟩
  | _ => none
def decq20_n0 (s : St) : Option Iq20_n0 := pk (decPq20_n0 s)
theorem decq20_n0_ok (s : St) (x : Iq20_n0) (h : decq20_n0 s = some x) : s = Sq20_n0 x := pk_ok (o := decPq20_n0 s) h
def outq20_n0 : Iq20_n0 → (Ex → St → Ans) → Yq20_n0 → Ans := fun t0 K => fun t2_y => K (Ex.norm) { env := [(2,.bool t2_y)],stk := [[]],H := [],blk := 774144 }
def nodeq20_n0 {β : Type} : Iq20_n0 → (Yq20_n0 → Option β) → Option β := fun t0 exit => (bif decide (t0 ≥ (1 : Int)) then (exit (decide (t0 ≤ (7 : Int)))) else (exit (false)))
def nodeDq20_n0 (i : Iq20_n0) : Option Yq20_n0 := nodeq20_n0 i some
theorem nodeq20_n0_nat (i : Iq20_n0) (k : Yq20_n0 → Ans) : nodeq20_n0 i k = bindO (nodeDq20_n0 i) k := by
  obtain z := i
  simp only [nodeDq20_n0,nodeq20_n0,bindO_cond,bindO_assoc,bindO_none,bindO_pure,bindO_elim,bindO_unP,bindO_empty]
theorem nodeq20_n0_ok (i : Iq20_n0) (K : Ex → St → Ans) : codeI Tryz.tab envq20 noHint (codeD Tryz.tab envq20 noHint 0 64) 70 9 annLq20_n0 Lq20_n0 (weakP 0 (exk [2] [2] []) K) (Sq20_n0 i) = nodeq20_n0 i (outq20_n0 i K) := by kernel_rfl
theorem GNq20_n0_ok : CSum Tryz.prog 9 Lq20_n0 (sumN decq20_n0 nodeDq20_n0 outq20_n0) := csum_node mixed tabOk envq20Ok 0 (exk [2] [2] []) annLq20_n0_ok decq20_n0_ok nodeq20_n0_ok nodeq20_n0_nat
noncomputable def Gq20_n0 : (Ex → St → Ans) → St → Ans := (sumN decq20_n0 nodeDq20_n0 outq20_n0)
theorem Gq20_n0_ok : CSum Tryz.prog 9 Lq20_n0 Gq20_n0 := GNq20_n0_ok
noncomputable def annq20 : Ann := (.seq .none (.seq (.cut 0 [0] Gq20_n0) .none))
theorem annq20_ok : AnnOk Tryz.prog 9 bq20 annq20 := ⟨(annOk_none _ _ _),⟨Gq20_n0_ok,(annOk_none _ _ _)⟩⟩
abbrev Aq20 := (Int)
abbrev Yq20 := (Bool)
def fnq20 {β : Type} : Aq20 → (Yq20 → Option β) → Option β := fun a0 exit => (bindO (nodeDq20_n0 (a0)) fun t2 => (exit (t2)))
def fnDq20 (a : Aq20) : Option Yq20 := fnq20 a some
theorem fnq20_nat (a : Aq20) (k : Yq20 → Ans) : fnq20 a k = bindO (fnDq20 a) k := by
  obtain z := a
  simp only [fnDq20,fnq20,bindO_cond,bindO_assoc,bindO_none,bindO_pure,bindO_elim,bindO_unP,bindO_empty]
def argsq20 : Aq20 → List AV := fun a0 => [.int .i64 a0]
def decPAq20 (l : List AV) : Option {a : Aq20 // l = argsq20 a} := match l with
  | [.int .i64 a0] => some ⟨(a0),rfl⟩
  | _ => none
def decAq20 (l : List AV) : Option Aq20 := pk (decPAq20 l)
theorem decAq20_ok (l : List AV) (a : Aq20) (h : decAq20 l = some a) : l = argsq20 a := pk_ok (o := decPAq20 l) h
def rendq20 : Aq20 → Yq20 → AV := fun a0 => fun r_y => .bool r_y
theorem rendq20_ok : ∀ (a : Aq20) (y : Yq20),(rendq20 a y).closed1 = true := by
  rintro z y <;> first | rfl | exact Empty.elim y
theorem fnq20_ok (a : Aq20) : fnE Tryz.tab envq20 noHint 0 70 189 Tryz.f189.ntmps Tryz.f189.results.toList annq20 bq20 (argsq20 a) [] (fun v _ => some (v,[])) = fnq20 a (fun y => some (rendq20 a y,[])) := by kernel_rfl
def vFq20 (a : Aq20) (K : AV → Ans) : Ans := bindO (fnDq20 a) fun y => K (rendq20 a y)
def Fq20 : List AV → (AV → Ans) → Ans := fun l K => bindO (decAq20 l) fun a => vFq20 a K
theorem Fq20_ok : PureOk Tryz.prog 189 Fq20 := pure_mkD (hint := noHint) (d := 0) (n := 70) mixed tabOk envq20Ok Tryz.func189 (bodySome (by kernel_rfl)) (by decide +kernel) annq20_ok decAq20_ok fnq20_ok fnq20_nat rendq20_ok
--@ field_Fits
noncomputable def envq14 : Env := [(189,.pure Fq20)]
theorem envq14Ok : EnvOk Tryz.prog envq14 := EnvOk.cons Fq20_ok (EnvOk.nil)
noncomputable def bq14 : Code := Tryz.f184.body.getD .skip
noncomputable def Lq14_n0 : Code := codeAt [1,0] bq14
noncomputable def annLq14_n0 : Ann := .none
theorem annLq14_n0_ok : AnnOk Tryz.prog 18 Lq14_n0 annLq14_n0 := (annOk_none _ _ _)
abbrev Iq14_n0 := (Int) × (Int)
abbrev Yq14_n0 := (Bool)
def Sq14_n0 : Iq14_n0 → St := fun (t0,t1) => { env := [(0,.int .i64 t0),(1,.int .i64 t1)],stk := [[]],H := [],blk := 753664 }
def decPq14_n0 (s : St) : Option {x : Iq14_n0 // s = Sq14_n0 x} := match s with
  | { env := [(0,.int .i64 t0),(1,.int .i64 t1)],stk := [[]],H := [],blk := 753664 } => some ⟨(t0,t1),rfl⟩
  | _ => none
def decq14_n0 (s : St) : Option Iq14_n0 := pk (decPq14_n0 s)
theorem decq14_n0_ok (s : St) (x : Iq14_n0) (h : decq14_n0 s = some x) : s = Sq14_n0 x := pk_ok (o := decPq14_n0 s) h
def outq14_n0 : Iq14_n0 → (Ex → St → Ans) → Yq14_n0 → Ans := fun (t0,t1) K => fun t4_y => K (Ex.norm) { env := [(4,.bool t4_y)],stk := [[]],H := [],blk := 753664 }
def nodeq14_n0 {β : Type} : Iq14_n0 → (Yq14_n0 → Option β) → Option β := fun (t0,t1) exit => (bindO (fnDq20 (t1)) fun r => (bif r then (bif decide (t0 ≥ (0 : Int)) then (bif decide (IntKind.wrap .i64 ((8 : Int) * t1) < (0 : Int)) then none else (exit (Int.fdiv t0 ((2 : Int) ^ min (Int.toNat (IntKind.wrap .i64 ((8 : Int) * t1))) (64 : Nat)) == (0 : Int)))) else (exit (false))) else (exit (false))))
def nodeDq14_n0 (i : Iq14_n0) : Option Yq14_n0 := nodeq14_n0 i some
theorem nodeq14_n0_nat (i : Iq14_n0) (k : Yq14_n0 → Ans) : nodeq14_n0 i k = bindO (nodeDq14_n0 i) k := by
  obtain ⟨t0,t1⟩ := i
  simp only [nodeDq14_n0,nodeq14_n0,bindO_cond,bindO_assoc,bindO_none,bindO_pure,bindO_elim,bindO_unP,bindO_empty]
theorem nodeq14_n0_ok (i : Iq14_n0) (K : Ex → St → Ans) : codeI Tryz.tab envq14 noHint (codeD Tryz.tab envq14 noHint 0 64) 70 18 annLq14_n0 Lq14_n0 (weakP 0 (exk [4] [4] []) K) (Sq14_n0 i) = nodeq14_n0 i (outq14_n0 i K) := by kernel_rfl
theorem GNq14_n0_ok : CSum Tryz.prog 18 Lq14_n0 (sumN decq14_n0 nodeDq14_n0 outq14_n0) := csum_node mixed tabOk envq14Ok 0 (exk [4] [4] []) annLq14_n0_ok decq14_n0_ok nodeq14_n0_ok nodeq14_n0_nat
noncomputable def Gq14_n0 : (Ex → St → Ans) → St → Ans := (sumN decq14_n0 nodeDq14_n0 outq14_n0)
theorem Gq14_n0_ok : CSum Tryz.prog 18 Lq14_n0 Gq14_n0 := GNq14_n0_ok
noncomputable def annq14 : Ann := (.seq .none (.seq (.cut 0 [0,1] Gq14_n0) .none))
theorem annq14_ok : AnnOk Tryz.prog 18 bq14 annq14 := ⟨(annOk_none _ _ _),⟨Gq14_n0_ok,(annOk_none _ _ _)⟩⟩
abbrev Aq14 := (Int) × (Int)
abbrev Yq14 := (Bool)
def fnq14 {β : Type} : Aq14 → (Yq14 → Option β) → Option β := fun (a0,a1) exit => (bindO (nodeDq14_n0 (a0,a1)) fun t4 => (exit (t4)))
def fnDq14 (a : Aq14) : Option Yq14 := fnq14 a some
theorem fnq14_nat (a : Aq14) (k : Yq14 → Ans) : fnq14 a k = bindO (fnDq14 a) k := by
  obtain ⟨a0,a1⟩ := a
  simp only [fnDq14,fnq14,bindO_cond,bindO_assoc,bindO_none,bindO_pure,bindO_elim,bindO_unP,bindO_empty]
def argsq14 : Aq14 → List AV := fun (a0,a1) => [.int .i64 a0,.int .i64 a1]
def decPAq14 (l : List AV) : Option {a : Aq14 // l = argsq14 a} := match l with
  | [.int .i64 a0,.int .i64 a1] => some ⟨(a0,a1),rfl⟩
  | _ => none
def decAq14 (l : List AV) : Option Aq14 := pk (decPAq14 l)
theorem decAq14_ok (l : List AV) (a : Aq14) (h : decAq14 l = some a) : l = argsq14 a := pk_ok (o := decPAq14 l) h
def rendq14 : Aq14 → Yq14 → AV := fun (a0,a1) => fun r_y => .bool r_y
theorem rendq14_ok : ∀ (a : Aq14) (y : Yq14),(rendq14 a y).closed1 = true := by
  rintro ⟨a0,a1⟩ y <;> first | rfl | exact Empty.elim y
theorem fnq14_ok (a : Aq14) : fnE Tryz.tab envq14 noHint 0 70 184 Tryz.f184.ntmps Tryz.f184.results.toList annq14 bq14 (argsq14 a) [] (fun v _ => some (v,[])) = fnq14 a (fun y => some (rendq14 a y,[])) := by kernel_rfl
def vFq14 (a : Aq14) (K : AV → Ans) : Ans := bindO (fnDq14 a) fun y => K (rendq14 a y)
def Fq14 : List AV → (AV → Ans) → Ans := fun l K => bindO (decAq14 l) fun a => vFq14 a K
theorem Fq14_ok : PureOk Tryz.prog 184 Fq14 := pure_mkD (hint := noHint) (d := 0) (n := 70) mixed tabOk envq14Ok Tryz.func184 (bodySome (by kernel_rfl)) (by decide +kernel) annq14_ok decAq14_ok fnq14_ok fnq14_nat rendq14_ok
--@ field_Put
noncomputable def envq16 : Env := [(184,.pure Fq14)]
theorem envq16Ok : EnvOk Tryz.prog envq16 := EnvOk.cons Fq14_ok (EnvOk.nil)
noncomputable def bq16 : Code := Tryz.f121.body.getD .skip
noncomputable def Lq16_n0 : Code := codeAt [1,1,1,0,1,0,0] bq16
noncomputable def annLq16_n0 : Ann := .at 0 [0,1,2,7,17,18] (.loop .none)
theorem annLq16_n0_ok : AnnOk Tryz.prog 37 (.loop Lq16_n0) annLq16_n0 := annOk_at (annOk_none _ _ _)
abbrev Iq16_n0 := (List UInt8) × (Int) × (Int) × (Int)
abbrev Yq16_n0 := (List Int)
abbrev Vq16_n0 := (Int) × (List Int)
def Sq16_n0 : Iq16_n0 → Vq16_n0 → St := fun (t0,t1,t2,t17) (t18,o0) => { env := [(0,.str t0),(1,.int .i64 t1),(2,.int .i64 t2),(7,.own 0),(17,.int .i64 t17),(18,.int .i64 t18)],stk := [[]],H := [.arr (.int .u8) o0],blk := 495616 }
def decPq16_n0 (s : St) : Option {x : Iq16_n0 × Vq16_n0 // s = Sq16_n0 x.1 x.2} := match s with
  | { env := [(0,.str t0),(1,.int .i64 t1),(2,.int .i64 t2),(7,.own 0),(17,.int .i64 t17),(18,.int .i64 t18)],stk := [[]],H := [.arr (.int .u8) o0],blk := 495616 } => some ⟨((t0,t1,t2,t17),(t18,o0)),rfl⟩
  | _ => none
def decq16_n0 (s : St) : Option (Iq16_n0 × Vq16_n0) := pk (decPq16_n0 s)
theorem decq16_n0_ok (s : St) (x : Iq16_n0 × Vq16_n0) (h : decq16_n0 s = some x) : s = Sq16_n0 x.1 x.2 := pk_ok (o := decPq16_n0 s) h
def outq16_n0 : Iq16_n0 → (Ex → St → Ans) → Yq16_n0 → Ans := fun (t0,t1,t2,t17) K => fun o0_y => K (Ex.exit 0) { env := [(0,.str t0),(7,.own 0)],stk := [[]],H := [.arr (.int .u8) o0_y],blk := 495616 }
def stepq16_n0 {β : Type} : Iq16_n0 → Vq16_n0 → (Vq16_n0 → Option β) → (Yq16_n0 → Option β) → Option β := fun (t0,t1,t2,t17) (t18,o0) next exit => (bif decide (t18 < t17) then (bif decide (IntKind.wrap .i64 ((8 : Int) * IntKind.wrap .i64 (IntKind.wrap .i64 (t2 - (1 : Int)) - t18)) < (0 : Int)) then none else (bif inR t18 (List.length o0) then (bindO (o0[Int.toNat t18]?) fun x => (next (IntKind.wrap .i64 (t18 + (1 : Int)),List.set o0 (Int.toNat t18) (IntKind.wrap .u8 (Int.fdiv t1 ((2 : Int) ^ min (Int.toNat (IntKind.wrap .i64 ((8 : Int) * IntKind.wrap .i64 (IntKind.wrap .i64 (t2 - (1 : Int)) - t18)))) (64 : Nat))))))) else none)) else (exit (o0)))
def stepDq16_n0 (i : Iq16_n0) (v : Vq16_n0) : Option (Vq16_n0 ⊕ Yq16_n0) := stepq16_n0 i v (fun v => some (.inl v)) (fun y => some (.inr y))
theorem stepq16_n0_nat (i : Iq16_n0) (v : Vq16_n0) (next : Vq16_n0 → Ans) (exit : Yq16_n0 → Ans) : stepq16_n0 i v next exit = bindO (stepDq16_n0 i v) (Sum.elim next exit) := by
  obtain ⟨t0,t1,t2,t17⟩ := i
  obtain ⟨t18,o0⟩ := v
  simp only [stepDq16_n0,stepq16_n0,bindO_cond,bindO_assoc,bindO_none,bindO_pure,bindO_elim,bindO_unP,bindO_empty,Sum.elim_inl,Sum.elim_inr]
theorem stepq16_n0_ok (n : Nat) (i : Iq16_n0) (v : Vq16_n0) (K : Ex → St → Ans) : codeI Tryz.tab envq16 noHint (codeD Tryz.tab envq16 noHint 0 64) (n+1) 37 annLq16_n0 (.loop Lq16_n0) (weakP 0 (exk [0,7] [6] [(0,[0,7])]) K) (Sq16_n0 i v) = stepq16_n0 i v (fun v' => codeI Tryz.tab envq16 noHint (codeD Tryz.tab envq16 noHint 0 64) n 37 annLq16_n0 (.loop Lq16_n0) (weakP 0 (exk [0,7] [6] [(0,[0,7])]) K) (Sq16_n0 i v')) (fun y => outq16_n0 i K y) := by kernel_rfl
theorem GNq16_n0_ok : CSum Tryz.prog 37 (.loop Lq16_n0) (sumL decq16_n0 stepDq16_n0 outq16_n0) := csum_loop mixed tabOk envq16Ok 0 (exk [0,7] [6] [(0,[0,7])]) annLq16_n0_ok decq16_n0_ok stepq16_n0_ok stepq16_n0_nat
noncomputable def Gq16_n0 : (Ex → St → Ans) → St → Ans := (sumL decq16_n0 stepDq16_n0 outq16_n0)
theorem Gq16_n0_ok : CSum Tryz.prog 37 (.loop Lq16_n0) Gq16_n0 := GNq16_n0_ok
noncomputable def annq16 : Ann := (.seq .none (.seq .none (.seq .none (.seq (.seq .none (.block (.cut 0 [0,1,2,7,17,18] Gq16_n0))) .none))))
theorem annq16_ok : AnnOk Tryz.prog 37 bq16 annq16 := ⟨(annOk_none _ _ _),⟨(annOk_none _ _ _),⟨(annOk_none _ _ _),⟨⟨(annOk_none _ _ _),Gq16_n0_ok⟩,(annOk_none _ _ _)⟩⟩⟩⟩
abbrev Aq16 := (List UInt8) × (Int) × (Int)
abbrev Yq16 := (List UInt8)
def fnq16 {β : Type} : Aq16 → (Yq16 → Option β) → Option β := fun (a0,a1,a2) exit => (bindO (fnDq14 (a1,a2)) fun r => (bif !r then (exit (a0)) else (bif decide ((0 : Int) ≤ a2) && decide (a2 ≤ a2) && decide ((1 : Int) * a2 ≤ (281474976710656 : Int)) && decide (a2 ≤ (9223372036854775807 : Int)) then (bindO (loopD (stepDq16_n0 (a0,a1,a2,(↑(List.length (List.replicate (Int.toNat a2) (0 : Int))) : Int))) FUEL ((0 : Int),List.replicate (Int.toNat a2) (0 : Int))) fun o0 => (bif Nat.ble (List.length a0 + List.length (bytesOf o0)) (9223372036854775807 : Nat) then (exit (a0 ++ bytesOf o0)) else none)) else none)))
def fnDq16 (a : Aq16) : Option Yq16 := fnq16 a some
theorem fnq16_nat (a : Aq16) (k : Yq16 → Ans) : fnq16 a k = bindO (fnDq16 a) k := by
  obtain ⟨a0,a1,a2⟩ := a
  simp only [fnDq16,fnq16,bindO_cond,bindO_assoc,bindO_none,bindO_pure,bindO_elim,bindO_unP,bindO_empty]
def argsq16 : Aq16 → List AV := fun (a0,a1,a2) => [.str a0,.int .i64 a1,.int .i64 a2]
def decPAq16 (l : List AV) : Option {a : Aq16 // l = argsq16 a} := match l with
  | [.str a0,.int .i64 a1,.int .i64 a2] => some ⟨(a0,a1,a2),rfl⟩
  | _ => none
def decAq16 (l : List AV) : Option Aq16 := pk (decPAq16 l)
theorem decAq16_ok (l : List AV) (a : Aq16) (h : decAq16 l = some a) : l = argsq16 a := pk_ok (o := decPAq16 l) h
def rendq16 : Aq16 → Yq16 → AV := fun (a0,a1,a2) => fun r_y => .str r_y
theorem rendq16_ok : ∀ (a : Aq16) (y : Yq16),(rendq16 a y).closed1 = true := by
  rintro ⟨a0,a1,a2⟩ y <;> first | rfl | exact Empty.elim y
theorem fnq16_ok (a : Aq16) : fnE Tryz.tab envq16 noHint 0 70 121 Tryz.f121.ntmps Tryz.f121.results.toList annq16 bq16 (argsq16 a) [] (fun v _ => some (v,[])) = fnq16 a (fun y => some (rendq16 a y,[])) := by kernel_rfl
def vFq16 (a : Aq16) (K : AV → Ans) : Ans := bindO (fnDq16 a) fun y => K (rendq16 a y)
def Fq16 : List AV → (AV → Ans) → Ans := fun l K => bindO (decAq16 l) fun a => vFq16 a K
theorem Fq16_ok : PureOk Tryz.prog 121 Fq16 := pure_mkD (hint := noHint) (d := 0) (n := 70) mixed tabOk envq16Ok Tryz.func121 (bodySome (by kernel_rfl)) (by decide +kernel) annq16_ok decAq16_ok fnq16_ok fnq16_nat rendq16_ok
--@ marks_Set_Bytes
noncomputable def envq44 : Env := []
theorem envq44Ok : EnvOk Tryz.prog envq44 := EnvOk.nil
noncomputable def bq44 : Code := Tryz.f58.body.getD .skip
noncomputable def annq44 : Ann := .none
theorem annq44_ok : AnnOk Tryz.prog 10 bq44 annq44 := (annOk_none _ _ _)
abbrev Aq44 := (Int) × (List Int)
abbrev Yq44 := (List UInt8)
def fnq44 {β : Type} : Aq44 → (Yq44 → Option β) → Option β := fun (o0_0,o1) exit => (exit (bytesOf o1))
def fnDq44 (a : Aq44) : Option Yq44 := fnq44 a some
theorem fnq44_nat (a : Aq44) (k : Yq44 → Ans) : fnq44 a k = bindO (fnDq44 a) k := by
  obtain ⟨o0_0,o1⟩ := a
  simp only [fnDq44,fnq44,bindO_cond,bindO_assoc,bindO_none,bindO_pure,bindO_elim,bindO_unP,bindO_empty]
def argsq44 : Aq44 → List AV × List AE.Obj := fun (o0_0,o1) => ([.ptr 0 0],[.cells [.int .i64 o0_0,.own 1],.arr (.int .u8) o1])
def decPAq44 (l : List AV) (H : List AE.Obj) : Option {a : Aq44 // (l,H) = argsq44 a} := match l,H with
  | [.ptr 0 0],[.cells [.int .i64 o0_0,.own 1],.arr (.int .u8) o1] => some ⟨(o0_0,o1),rfl⟩
  | _,_ => none
def decAq44 (l : List AV) (H : List AE.Obj) : Option Aq44 := pk (decPAq44 l H)
theorem decAq44_ok (l : List AV) (H : List AE.Obj) (a : Aq44) (h : decAq44 l H = some a) : (l,H) = argsq44 a := pk_ok (o := decPAq44 l H) h
def outq44 : Aq44 → (AV → List AE.Obj → Ans) → Yq44 → Ans := fun (o0_0,o1) K => fun r_y => K (.str r_y) [.cells [.int .i64 o0_0,.own 1],.arr (.int .u8) o1]
theorem fnq44_ok (a : Aq44) (K : AV → List AE.Obj → Ans) : fnE Tryz.tab envq44 noHint 0 70 58 Tryz.f58.ntmps Tryz.f58.results.toList annq44 bq44 (argsq44 a).1 (argsq44 a).2 K = fnq44 a (outq44 a K) := by kernel_rfl
def vFq44 (a : Aq44) (K : AV → List AE.Obj → Ans) : Ans := bindO (fnDq44 a) fun y => outq44 a K y
def Fq44 : List AV → List AE.Obj → (AV → List AE.Obj → Ans) → Ans := fun l H K => bindO (decAq44 l H) fun a => vFq44 a K
theorem Fq44_ok : FuncOk Tryz.prog 58 Fq44 := func_mkD (hint := noHint) (d := 0) (n := 70) mixed tabOk envq44Ok Tryz.func58 (bodySome (by kernel_rfl)) (by decide +kernel) annq44_ok decAq44_ok fnq44_ok fnq44_nat
--@ cyclic_New
noncomputable def envq0 : Env := []
theorem envq0Ok : EnvOk Tryz.prog envq0 := EnvOk.nil
noncomputable def bq0 : Code := Tryz.f220.body.getD .skip
noncomputable def annq0 : Ann := .none
theorem annq0_ok : AnnOk Tryz.prog 3 bq0 annq0 := (annOk_none _ _ _)
abbrev Aq0 := Unit
abbrev Yq0 := Unit
def fnq0 {β : Type} : Aq0 → (Yq0 → Option β) → Option β := fun _ exit => (exit ())
def fnDq0 (a : Aq0) : Option Yq0 := fnq0 a some
theorem fnq0_nat (a : Aq0) (k : Yq0 → Ans) : fnq0 a k = bindO (fnDq0 a) k := by
  obtain z := a
  simp only [fnDq0,fnq0,bindO_cond,bindO_assoc,bindO_none,bindO_pure,bindO_elim,bindO_unP,bindO_empty]
def argsq0 : Aq0 → List AV × List AE.Obj := fun _ => ([],[])
def decPAq0 (l : List AV) (H : List AE.Obj) : Option {a : Aq0 // (l,H) = argsq0 a} := match l,H with
  | [],[] => some ⟨(),rfl⟩
  | _,_ => none
def decAq0 (l : List AV) (H : List AE.Obj) : Option Aq0 := pk (decPAq0 l H)
theorem decAq0_ok (l : List AV) (H : List AE.Obj) (a : Aq0) (h : decAq0 l H = some a) : (l,H) = argsq0 a := pk_ok (o := decPAq0 l H) h
def outq0 : Aq0 → (AV → List AE.Obj → Ans) → Yq0 → Ans := fun _ K => fun _ => K (.ptr 0 0) [.cells [.int .u32 (0)]]
theorem fnq0_ok (a : Aq0) (K : AV → List AE.Obj → Ans) : fnE Tryz.tab envq0 noHint 0 70 220 Tryz.f220.ntmps Tryz.f220.results.toList annq0 bq0 (argsq0 a).1 (argsq0 a).2 K = fnq0 a (outq0 a K) := by kernel_rfl
def vFq0 (a : Aq0) (K : AV → List AE.Obj → Ans) : Ans := bindO (fnDq0 a) fun y => outq0 a K y
def Fq0 : List AV → List AE.Obj → (AV → List AE.Obj → Ans) → Ans := fun l H K => bindO (decAq0 l H) fun a => vFq0 a K
theorem Fq0_ok : FuncOk Tryz.prog 220 Fq0 := func_mkD (hint := noHint) (d := 0) (n := 70) mixed tabOk envq0Ok Tryz.func220 (bodySome (by kernel_rfl)) (by decide +kernel) annq0_ok decAq0_ok fnq0_ok fnq0_nat
--@ cyclic_step
noncomputable def envq5 : Env := []
theorem envq5Ok : EnvOk Tryz.prog envq5 := EnvOk.nil
noncomputable def bq5 : Code := Tryz.f242.body.getD .skip
noncomputable def Lq5_n0 : Code := codeAt [1,1,0,1,0,0] bq5
noncomputable def annLq5_n0 : Ann := .at 0 [0,9] (.loop .none)
theorem annLq5_n0_ok : AnnOk Tryz.prog 20 (.loop Lq5_n0) annLq5_n0 := annOk_at (annOk_none _ _ _)
abbrev Iq5_n0 := Unit
abbrev Yq5_n0 := (Int)
abbrev Vq5_n0 := (Int) × (Int)
def Sq5_n0 : Iq5_n0 → Vq5_n0 → St := fun _ (t0,t9) => { env := [(0,.int .u32 t0),(9,.int .i64 t9)],stk := [[]],H := [],blk := 991232 }
def decPq5_n0 (s : St) : Option {x : Iq5_n0 × Vq5_n0 // s = Sq5_n0 x.1 x.2} := match s with
  | { env := [(0,.int .u32 t0),(9,.int .i64 t9)],stk := [[]],H := [],blk := 991232 } => some ⟨((),(t0,t9)),rfl⟩
  | _ => none
def decq5_n0 (s : St) : Option (Iq5_n0 × Vq5_n0) := pk (decPq5_n0 s)
theorem decq5_n0_ok (s : St) (x : Iq5_n0 × Vq5_n0) (h : decq5_n0 s = some x) : s = Sq5_n0 x.1 x.2 := pk_ok (o := decPq5_n0 s) h
def outq5_n0 : Iq5_n0 → (Ex → St → Ans) → Yq5_n0 → Ans := fun _ K => fun t0_y => K (Ex.exit 0) { env := [(0,.int .u32 t0_y)],stk := [[]],H := [],blk := 991232 }
def stepq5_n0 {β : Type} : Iq5_n0 → Vq5_n0 → (Vq5_n0 → Option β) → (Yq5_n0 → Option β) → Option β := fun _ (t0,t9) next exit => (bif decide (t9 < (8 : Int)) then (next (IntKind.wrap .u32 (↑(Int.toNat (Int.fdiv t0 (2 : Int) % (4294967296 : Int)) ^^^ Int.toNat (IntKind.wrap .u32 (↑((3988292384 : Nat) &&& Int.toNat (IntKind.wrap .u32 ((0 : Int) - IntKind.wrap .u32 (↑(Int.toNat (t0 % (4294967296 : Int)) &&& (1 : Nat)) : Int)) % (4294967296 : Int))) : Int) % (4294967296 : Int))) : Int),IntKind.wrap .i64 (t9 + (1 : Int)))) else (exit (t0)))
def stepDq5_n0 (i : Iq5_n0) (v : Vq5_n0) : Option (Vq5_n0 ⊕ Yq5_n0) := stepq5_n0 i v (fun v => some (.inl v)) (fun y => some (.inr y))
theorem stepq5_n0_nat (i : Iq5_n0) (v : Vq5_n0) (next : Vq5_n0 → Ans) (exit : Yq5_n0 → Ans) : stepq5_n0 i v next exit = bindO (stepDq5_n0 i v) (Sum.elim next exit) := by
  obtain z := i
  obtain ⟨t0,t9⟩ := v
  simp only [stepDq5_n0,stepq5_n0,bindO_cond,bindO_assoc,bindO_none,bindO_pure,bindO_elim,bindO_unP,bindO_empty,Sum.elim_inl,Sum.elim_inr]
theorem stepq5_n0_ok (n : Nat) (i : Iq5_n0) (v : Vq5_n0) (K : Ex → St → Ans) : codeI Tryz.tab envq5 noHint (codeD Tryz.tab envq5 noHint 0 64) (n+1) 20 annLq5_n0 (.loop Lq5_n0) (weakP 0 (exk [0] [4] [(0,[0])]) K) (Sq5_n0 i v) = stepq5_n0 i v (fun v' => codeI Tryz.tab envq5 noHint (codeD Tryz.tab envq5 noHint 0 64) n 20 annLq5_n0 (.loop Lq5_n0) (weakP 0 (exk [0] [4] [(0,[0])]) K) (Sq5_n0 i v')) (fun y => outq5_n0 i K y) := by kernel_rfl
theorem GNq5_n0_ok : CSum Tryz.prog 20 (.loop Lq5_n0) (sumL decq5_n0 stepDq5_n0 outq5_n0) := csum_loop mixed tabOk envq5Ok 0 (exk [0] [4] [(0,[0])]) annLq5_n0_ok decq5_n0_ok stepq5_n0_ok stepq5_n0_nat
noncomputable def Gq5_n0 : (Ex → St → Ans) → St → Ans := (sumL decq5_n0 stepDq5_n0 outq5_n0)
theorem Gq5_n0_ok : CSum Tryz.prog 20 (.loop Lq5_n0) Gq5_n0 := GNq5_n0_ok
noncomputable def annq5 : Ann := (.seq .none (.seq .none (.seq (.seq .none (.block (.cut 0 [0,9] Gq5_n0))) .none)))
theorem annq5_ok : AnnOk Tryz.prog 20 bq5 annq5 := ⟨(annOk_none _ _ _),⟨(annOk_none _ _ _),⟨⟨(annOk_none _ _ _),Gq5_n0_ok⟩,(annOk_none _ _ _)⟩⟩⟩
abbrev Aq5 := (Int) × (Int)
abbrev Yq5 := (Int)
def fnq5 {β : Type} : Aq5 → (Yq5 → Option β) → Option β := fun (a0,a1) exit => (bindO (loopD (stepDq5_n0 ()) FUEL (IntKind.wrap .u32 (↑(Int.toNat (a0 % (4294967296 : Int)) ^^^ Int.toNat (IntKind.wrap .u32 a1 % (4294967296 : Int))) : Int),(0 : Int))) fun t0 => (exit (t0)))
def fnDq5 (a : Aq5) : Option Yq5 := fnq5 a some
theorem fnq5_nat (a : Aq5) (k : Yq5 → Ans) : fnq5 a k = bindO (fnDq5 a) k := by
  obtain ⟨a0,a1⟩ := a
  simp only [fnDq5,fnq5,bindO_cond,bindO_assoc,bindO_none,bindO_pure,bindO_elim,bindO_unP,bindO_empty]
def argsq5 : Aq5 → List AV := fun (a0,a1) => [.int .u32 a0,.int .u8 a1]
def decPAq5 (l : List AV) : Option {a : Aq5 // l = argsq5 a} := match l with
  | [.int .u32 a0,.int .u8 a1] => some ⟨(a0,a1),rfl⟩
  | _ => none
def decAq5 (l : List AV) : Option Aq5 := pk (decPAq5 l)
theorem decAq5_ok (l : List AV) (a : Aq5) (h : decAq5 l = some a) : l = argsq5 a := pk_ok (o := decPAq5 l) h
def rendq5 : Aq5 → Yq5 → AV := fun (a0,a1) => fun r_y => .int .u32 r_y
theorem rendq5_ok : ∀ (a : Aq5) (y : Yq5),(rendq5 a y).closed1 = true := by
  rintro ⟨a0,a1⟩ y <;> first | rfl | exact Empty.elim y
theorem fnq5_ok (a : Aq5) : fnE Tryz.tab envq5 noHint 0 70 242 Tryz.f242.ntmps Tryz.f242.results.toList annq5 bq5 (argsq5 a) [] (fun v _ => some (v,[])) = fnq5 a (fun y => some (rendq5 a y,[])) := by kernel_rfl
def vFq5 (a : Aq5) (K : AV → Ans) : Ans := bindO (fnDq5 a) fun y => K (rendq5 a y)
def Fq5 : List AV → (AV → Ans) → Ans := fun l K => bindO (decAq5 l) fun a => vFq5 a K
theorem Fq5_ok : PureOk Tryz.prog 242 Fq5 := pure_mkD (hint := noHint) (d := 0) (n := 70) mixed tabOk envq5Ok Tryz.func242 (bodySome (by kernel_rfl)) (by decide +kernel) annq5_ok decAq5_ok fnq5_ok fnq5_nat rendq5_ok
--@ cyclic_State_Add
noncomputable def envq2 : Env := [(242,.pure Fq5)]
theorem envq2Ok : EnvOk Tryz.prog envq2 := EnvOk.cons Fq5_ok (EnvOk.nil)
noncomputable def bq2 : Code := Tryz.f221.body.getD .skip
noncomputable def Lq2_n0 : Code := codeAt [1,1,0,1,0,0] bq2
noncomputable def annLq2_n0 : Ann := .at 1 [0,1,4,14,15] (.loop .none)
theorem annLq2_n0_ok : AnnOk Tryz.prog 29 (.loop Lq2_n0) annLq2_n0 := annOk_at (annOk_none _ _ _)
abbrev Iq2_n0 := (List UInt8) × (Int) × (Int)
abbrev Yq2_n0 := (Int)
abbrev Vq2_n0 := (Int) × (Int)
def Sq2_n0 : Iq2_n0 → Vq2_n0 → St := fun (t1,t14,o0_0) (t4,t15) => { env := [(0,.ptr 0 0),(1,.str t1),(4,.int .u32 t4),(14,.int .i64 t14),(15,.int .i64 t15)],stk := [[(0,.ptr 0 0)]],H := [.cells [.int .u32 o0_0]],blk := 905216 }
def decPq2_n0 (s : St) : Option {x : Iq2_n0 × Vq2_n0 // s = Sq2_n0 x.1 x.2} := match s with
  | { env := [(0,.ptr 0 0),(1,.str t1),(4,.int .u32 t4),(14,.int .i64 t14),(15,.int .i64 t15)],stk := [[(0,.ptr 0 0)]],H := [.cells [.int .u32 o0_0]],blk := 905216 } => some ⟨((t1,t14,o0_0),(t4,t15)),rfl⟩
  | _ => none
def decq2_n0 (s : St) : Option (Iq2_n0 × Vq2_n0) := pk (decPq2_n0 s)
theorem decq2_n0_ok (s : St) (x : Iq2_n0 × Vq2_n0) (h : decq2_n0 s = some x) : s = Sq2_n0 x.1 x.2 := pk_ok (o := decPq2_n0 s) h
def outq2_n0 : Iq2_n0 → (Ex → St → Ans) → Yq2_n0 → Ans := fun (t1,t14,o0_0) K => fun t4_y => K (Ex.exit 0) { env := [(0,.ptr 0 0),(4,.int .u32 t4_y)],stk := [[(0,.ptr 0 0)]],H := [.cells [.int .u32 o0_0]],blk := 905216 }
def stepq2_n0 {β : Type} : Iq2_n0 → Vq2_n0 → (Vq2_n0 → Option β) → (Yq2_n0 → Option β) → Option β := fun (t1,t14,o0_0) (t4,t15) next exit => (bif decide (t15 < t14) then (bindO (nth t1 t15) fun x => (bindO (fnDq5 (t4,(↑(UInt8.toNat x) : Int))) fun r => (next (r,IntKind.wrap .i64 (t15 + (1 : Int)))))) else (exit (t4)))
def stepDq2_n0 (i : Iq2_n0) (v : Vq2_n0) : Option (Vq2_n0 ⊕ Yq2_n0) := stepq2_n0 i v (fun v => some (.inl v)) (fun y => some (.inr y))
theorem stepq2_n0_nat (i : Iq2_n0) (v : Vq2_n0) (next : Vq2_n0 → Ans) (exit : Yq2_n0 → Ans) : stepq2_n0 i v next exit = bindO (stepDq2_n0 i v) (Sum.elim next exit) := by
  obtain ⟨t1,t14,o0_0⟩ := i
  obtain ⟨t4,t15⟩ := v
  simp only [stepDq2_n0,stepq2_n0,bindO_cond,bindO_assoc,bindO_none,bindO_pure,bindO_elim,bindO_unP,bindO_empty,Sum.elim_inl,Sum.elim_inr]
theorem stepq2_n0_ok (n : Nat) (i : Iq2_n0) (v : Vq2_n0) (K : Ex → St → Ans) : codeI Tryz.tab envq2 noHint (codeD Tryz.tab envq2 noHint 0 64) (n+1) 29 annLq2_n0 (.loop Lq2_n0) (weakP 1 (exk [0,4] [] [(0,[0,4])]) K) (Sq2_n0 i v) = stepq2_n0 i v (fun v' => codeI Tryz.tab envq2 noHint (codeD Tryz.tab envq2 noHint 0 64) n 29 annLq2_n0 (.loop Lq2_n0) (weakP 1 (exk [0,4] [] [(0,[0,4])]) K) (Sq2_n0 i v')) (fun y => outq2_n0 i K y) := by kernel_rfl
theorem GNq2_n0_ok : CSum Tryz.prog 29 (.loop Lq2_n0) (sumL decq2_n0 stepDq2_n0 outq2_n0) := csum_loop mixed tabOk envq2Ok 1 (exk [0,4] [] [(0,[0,4])]) annLq2_n0_ok decq2_n0_ok stepq2_n0_ok stepq2_n0_nat
noncomputable def Gq2_n0 : (Ex → St → Ans) → St → Ans := (sumL decq2_n0 stepDq2_n0 outq2_n0)
theorem Gq2_n0_ok : CSum Tryz.prog 29 (.loop Lq2_n0) Gq2_n0 := GNq2_n0_ok
noncomputable def annq2 : Ann := (.seq .none (.seq .none (.seq (.seq .none (.block (.cut 1 [0,1,4,14,15] Gq2_n0))) .none)))
theorem annq2_ok : AnnOk Tryz.prog 29 bq2 annq2 := ⟨(annOk_none _ _ _),⟨(annOk_none _ _ _),⟨⟨(annOk_none _ _ _),Gq2_n0_ok⟩,(annOk_none _ _ _)⟩⟩⟩
abbrev Aq2 := (List UInt8) × (Int)
abbrev Yq2 := (Int)
def fnq2 {β : Type} : Aq2 → (Yq2 → Option β) → Option β := fun (a1,o0_0) exit => (bindO (loopD (stepDq2_n0 (a1,(↑(List.length a1) : Int),o0_0)) FUEL (IntKind.wrap .u32 (↑(Int.toNat (o0_0 % (4294967296 : Int)) ^^^ (4294967295 : Nat)) : Int),(0 : Int))) fun t4 => (exit (IntKind.wrap .u32 (↑(Int.toNat (t4 % (4294967296 : Int)) ^^^ (4294967295 : Nat)) : Int))))
def fnDq2 (a : Aq2) : Option Yq2 := fnq2 a some
theorem fnq2_nat (a : Aq2) (k : Yq2 → Ans) : fnq2 a k = bindO (fnDq2 a) k := by
  obtain ⟨a1,o0_0⟩ := a
  simp only [fnDq2,fnq2,bindO_cond,bindO_assoc,bindO_none,bindO_pure,bindO_elim,bindO_unP,bindO_empty]
def argsq2 : Aq2 → List AV × List AE.Obj := fun (a1,o0_0) => ([.ptr 0 0,.str a1],[.cells [.int .u32 o0_0]])
def decPAq2 (l : List AV) (H : List AE.Obj) : Option {a : Aq2 // (l,H) = argsq2 a} := match l,H with
  | [.ptr 0 0,.str a1],[.cells [.int .u32 o0_0]] => some ⟨(a1,o0_0),rfl⟩
  | _,_ => none
def decAq2 (l : List AV) (H : List AE.Obj) : Option Aq2 := pk (decPAq2 l H)
theorem decAq2_ok (l : List AV) (H : List AE.Obj) (a : Aq2) (h : decAq2 l H = some a) : (l,H) = argsq2 a := pk_ok (o := decPAq2 l H) h
def outq2 : Aq2 → (AV → List AE.Obj → Ans) → Yq2 → Ans := fun (a1,o0_0) K => fun o0_0_y => K (.tup []) [.cells [.int .u32 o0_0_y]]
theorem fnq2_ok (a : Aq2) (K : AV → List AE.Obj → Ans) : fnE Tryz.tab envq2 noHint 0 70 221 Tryz.f221.ntmps Tryz.f221.results.toList annq2 bq2 (argsq2 a).1 (argsq2 a).2 K = fnq2 a (outq2 a K) := by kernel_rfl
def vFq2 (a : Aq2) (K : AV → List AE.Obj → Ans) : Ans := bindO (fnDq2 a) fun y => outq2 a K y
def Fq2 : List AV → List AE.Obj → (AV → List AE.Obj → Ans) → Ans := fun l H K => bindO (decAq2 l H) fun a => vFq2 a K
theorem Fq2_ok : FuncOk Tryz.prog 221 Fq2 := func_mkD (hint := noHint) (d := 0) (n := 70) mixed tabOk envq2Ok Tryz.func221 (bodySome (by kernel_rfl)) (by decide +kernel) annq2_ok decAq2_ok fnq2_ok fnq2_nat
--@ cyclic_State_Sum
noncomputable def envq3 : Env := []
theorem envq3Ok : EnvOk Tryz.prog envq3 := EnvOk.nil
noncomputable def bq3 : Code := Tryz.f222.body.getD .skip
noncomputable def annq3 : Ann := .none
theorem annq3_ok : AnnOk Tryz.prog 10 bq3 annq3 := (annOk_none _ _ _)
abbrev Aq3 := (Int)
abbrev Yq3 := (Int)
def fnq3 {β : Type} : Aq3 → (Yq3 → Option β) → Option β := fun o0_0 exit => (exit (IntKind.wrap .i64 o0_0))
def fnDq3 (a : Aq3) : Option Yq3 := fnq3 a some
theorem fnq3_nat (a : Aq3) (k : Yq3 → Ans) : fnq3 a k = bindO (fnDq3 a) k := by
  obtain z := a
  simp only [fnDq3,fnq3,bindO_cond,bindO_assoc,bindO_none,bindO_pure,bindO_elim,bindO_unP,bindO_empty]
def argsq3 : Aq3 → List AV × List AE.Obj := fun o0_0 => ([.ptr 0 0],[.cells [.int .u32 o0_0]])
def decPAq3 (l : List AV) (H : List AE.Obj) : Option {a : Aq3 // (l,H) = argsq3 a} := match l,H with
  | [.ptr 0 0],[.cells [.int .u32 o0_0]] => some ⟨(o0_0),rfl⟩
  | _,_ => none
def decAq3 (l : List AV) (H : List AE.Obj) : Option Aq3 := pk (decPAq3 l H)
theorem decAq3_ok (l : List AV) (H : List AE.Obj) (a : Aq3) (h : decAq3 l H = some a) : (l,H) = argsq3 a := pk_ok (o := decPAq3 l H) h
def outq3 : Aq3 → (AV → List AE.Obj → Ans) → Yq3 → Ans := fun o0_0 K => fun r_y => K (.int .i64 r_y) [.cells [.int .u32 o0_0]]
theorem fnq3_ok (a : Aq3) (K : AV → List AE.Obj → Ans) : fnE Tryz.tab envq3 noHint 0 70 222 Tryz.f222.ntmps Tryz.f222.results.toList annq3 bq3 (argsq3 a).1 (argsq3 a).2 K = fnq3 a (outq3 a K) := by kernel_rfl
def vFq3 (a : Aq3) (K : AV → List AE.Obj → Ans) : Ans := bindO (fnDq3 a) fun y => outq3 a K y
def Fq3 : List AV → List AE.Obj → (AV → List AE.Obj → Ans) → Ans := fun l H K => bindO (decAq3 l H) fun a => vFq3 a K
theorem Fq3_ok : FuncOk Tryz.prog 222 Fq3 := func_mkD (hint := noHint) (d := 0) (n := 70) mixed tabOk envq3Ok Tryz.func222 (bodySome (by kernel_rfl)) (by decide +kernel) annq3_ok decAq3_ok fnq3_ok fnq3_nat
--@ cyclic_Of
noncomputable def envq1 : Env := [(220,.func Fq0),(221,.func Fq2),(222,.func Fq3)]
theorem envq1Ok : EnvOk Tryz.prog envq1 := EnvOk.cons Fq0_ok (EnvOk.cons Fq2_ok (EnvOk.cons Fq3_ok (EnvOk.nil)))
noncomputable def bq1 : Code := Tryz.f185.body.getD .skip
noncomputable def annq1 : Ann := .none
theorem annq1_ok : AnnOk Tryz.prog 10 bq1 annq1 := (annOk_none _ _ _)
abbrev Aq1 := (List UInt8)
abbrev Yq1 := (Int)
def fnq1 {β : Type} : Aq1 → (Yq1 → Option β) → Option β := fun a0 exit => (bindO (fnDq0 ()) fun _ => (bindO (fnDq2 (a0,(0 : Int))) fun o0_0 => (bindO (fnDq3 (o0_0)) fun r => (exit (r)))))
def fnDq1 (a : Aq1) : Option Yq1 := fnq1 a some
theorem fnq1_nat (a : Aq1) (k : Yq1 → Ans) : fnq1 a k = bindO (fnDq1 a) k := by
  obtain z := a
  simp only [fnDq1,fnq1,bindO_cond,bindO_assoc,bindO_none,bindO_pure,bindO_elim,bindO_unP,bindO_empty]
def argsq1 : Aq1 → List AV := fun a0 => [.str a0]
def decPAq1 (l : List AV) : Option {a : Aq1 // l = argsq1 a} := match l with
  | [.str a0] => some ⟨(a0),rfl⟩
  | _ => none
def decAq1 (l : List AV) : Option Aq1 := pk (decPAq1 l)
theorem decAq1_ok (l : List AV) (a : Aq1) (h : decAq1 l = some a) : l = argsq1 a := pk_ok (o := decPAq1 l) h
def rendq1 : Aq1 → Yq1 → AV := fun a0 => fun r_y => .int .i64 r_y
theorem rendq1_ok : ∀ (a : Aq1) (y : Yq1),(rendq1 a y).closed1 = true := by
  rintro z y <;> first | rfl | exact Empty.elim y
theorem fnq1_ok (a : Aq1) : fnE Tryz.tab envq1 noHint 0 70 185 Tryz.f185.ntmps Tryz.f185.results.toList annq1 bq1 (argsq1 a) [] (fun v _ => some (v,[])) = fnq1 a (fun y => some (rendq1 a y,[])) := by kernel_rfl
def vFq1 (a : Aq1) (K : AV → Ans) : Ans := bindO (fnDq1 a) fun y => K (rendq1 a y)
def Fq1 : List AV → (AV → Ans) → Ans := fun l K => bindO (decAq1 l) fun a => vFq1 a K
theorem Fq1_ok : PureOk Tryz.prog 185 Fq1 := pure_mkD (hint := noHint) (d := 0) (n := 70) mixed tabOk envq1Ok Tryz.func185 (bodySome (by kernel_rfl)) (by decide +kernel) annq1_ok decAq1_ok fnq1_ok fnq1_nat rendq1_ok
--@ cyclic_Tail
noncomputable def envq4 : Env := [(185,.pure Fq1)]
theorem envq4Ok : EnvOk Tryz.prog envq4 := EnvOk.cons Fq1_ok (EnvOk.nil)
noncomputable def bq4 : Code := Tryz.f123.body.getD .skip
noncomputable def Lq4_n1 : Code := codeAt [1,1,1,0,1,0,0] bq4
noncomputable def annLq4_n1 : Ann := .none
theorem annLq4_n1_ok : AnnOk Tryz.prog 21 Lq4_n1 annLq4_n1 := (annOk_none _ _ _)
abbrev Iq4_n1 := (Int) × (Int) × (Int) × (Int) × (Int)
abbrev Yq4_n1 := Unit
def Sq4_n1 : Iq4_n1 → St := fun (t3,o0_0,o0_1,o0_2,o0_3) => { env := [(3,.int .i64 t3),(4,.ptr 0 0),(8,.int .i64 (4))],stk := [[]],H := [.cells [.int .u8 o0_0,.int .u8 o0_1,.int .u8 o0_2,.int .u8 o0_3]],blk := 503808 }
def decPq4_n1 (s : St) : Option {x : Iq4_n1 // s = Sq4_n1 x} := match s with
  | { env := [(3,.int .i64 t3),(4,.ptr 0 0),(8,.int .i64 r1)],stk := [[]],H := [.cells [.int .u8 o0_0,.int .u8 o0_1,.int .u8 o0_2,.int .u8 o0_3]],blk := 503808 } => if h1 : r1 = 4 then some ⟨(t3,o0_0,o0_1,o0_2,o0_3),by subst h1; rfl⟩ else none
  | _ => none
def decq4_n1 (s : St) : Option Iq4_n1 := pk (decPq4_n1 s)
theorem decq4_n1_ok (s : St) (x : Iq4_n1) (h : decq4_n1 s = some x) : s = Sq4_n1 x := pk_ok (o := decPq4_n1 s) h
def outq4_n1 : Iq4_n1 → (Ex → St → Ans) → Yq4_n1 → Ans := fun (t3,o0_0,o0_1,o0_2,o0_3) K => fun _ => K (Ex.exit 0) { env := [(4,.ptr 0 0)],stk := [[]],H := [.cells [.int .u8 o0_0,.int .u8 o0_1,.int .u8 o0_2,.int .u8 o0_3]],blk := 503808 }
def nodeq4_n1 {β : Type} : Iq4_n1 → (Yq4_n1 → Option β) → Option β := fun (t3,o0_0,o0_1,o0_2,o0_3) exit => (exit ())
def nodeDq4_n1 (i : Iq4_n1) : Option Yq4_n1 := nodeq4_n1 i some
theorem nodeq4_n1_nat (i : Iq4_n1) (k : Yq4_n1 → Ans) : nodeq4_n1 i k = bindO (nodeDq4_n1 i) k := by
  obtain ⟨t3,o0_0,o0_1,o0_2,o0_3⟩ := i
  simp only [nodeDq4_n1,nodeq4_n1,bindO_cond,bindO_assoc,bindO_none,bindO_pure,bindO_elim,bindO_unP,bindO_empty]
theorem nodeq4_n1_ok (i : Iq4_n1) (K : Ex → St → Ans) : codeI Tryz.tab envq4 noHint (codeD Tryz.tab envq4 noHint 0 64) 70 21 annLq4_n1 Lq4_n1 (weakP 0 (exk [3,4,8] [2] [(0,[4])]) K) (Sq4_n1 i) = nodeq4_n1 i (outq4_n1 i K) := by kernel_rfl
theorem GNq4_n1_ok : CSum Tryz.prog 21 Lq4_n1 (sumN decq4_n1 nodeDq4_n1 outq4_n1) := csum_node mixed tabOk envq4Ok 0 (exk [3,4,8] [2] [(0,[4])]) annLq4_n1_ok decq4_n1_ok nodeq4_n1_ok nodeq4_n1_nat
abbrev Iq4_n1v1 := (Int) × (Int) × (Int) × (Int) × (Int)
abbrev Yq4_n1v1 := (Int)
def Sq4_n1v1 : Iq4_n1v1 → St := fun (t3,o0_0,o0_1,o0_2,o0_3) => { env := [(3,.int .i64 t3),(4,.ptr 0 0),(8,.int .i64 (0))],stk := [[]],H := [.cells [.int .u8 o0_0,.int .u8 o0_1,.int .u8 o0_2,.int .u8 o0_3]],blk := 503808 }
def decPq4_n1v1 (s : St) : Option {x : Iq4_n1v1 // s = Sq4_n1v1 x} := match s with
  | { env := [(3,.int .i64 t3),(4,.ptr 0 0),(8,.int .i64 r1)],stk := [[]],H := [.cells [.int .u8 o0_0,.int .u8 o0_1,.int .u8 o0_2,.int .u8 o0_3]],blk := 503808 } => if h1 : r1 = 0 then some ⟨(t3,o0_0,o0_1,o0_2,o0_3),by subst h1; rfl⟩ else none
  | _ => none
def decq4_n1v1 (s : St) : Option Iq4_n1v1 := pk (decPq4_n1v1 s)
theorem decq4_n1v1_ok (s : St) (x : Iq4_n1v1) (h : decq4_n1v1 s = some x) : s = Sq4_n1v1 x := pk_ok (o := decPq4_n1v1 s) h
def outq4_n1v1 : Iq4_n1v1 → (Ex → St → Ans) → Yq4_n1v1 → Ans := fun (t3,o0_0,o0_1,o0_2,o0_3) K => fun o0_0_y => K (Ex.norm) { env := [(3,.int .i64 t3),(4,.ptr 0 0),(8,.int .i64 (1))],stk := [[]],H := [.cells [.int .u8 o0_0_y,.int .u8 o0_1,.int .u8 o0_2,.int .u8 o0_3]],blk := 503809 }
def nodeq4_n1v1 {β : Type} : Iq4_n1v1 → (Yq4_n1v1 → Option β) → Option β := fun (t3,o0_0,o0_1,o0_2,o0_3) exit => (exit (IntKind.wrap .u8 (Int.fdiv t3 (1 : Int))))
def nodeDq4_n1v1 (i : Iq4_n1v1) : Option Yq4_n1v1 := nodeq4_n1v1 i some
theorem nodeq4_n1v1_nat (i : Iq4_n1v1) (k : Yq4_n1v1 → Ans) : nodeq4_n1v1 i k = bindO (nodeDq4_n1v1 i) k := by
  obtain ⟨t3,o0_0,o0_1,o0_2,o0_3⟩ := i
  simp only [nodeDq4_n1v1,nodeq4_n1v1,bindO_cond,bindO_assoc,bindO_none,bindO_pure,bindO_elim,bindO_unP,bindO_empty]
theorem nodeq4_n1v1_ok (i : Iq4_n1v1) (K : Ex → St → Ans) : codeI Tryz.tab envq4 noHint (codeD Tryz.tab envq4 noHint 0 64) 70 21 annLq4_n1 Lq4_n1 (weakP 0 (exk [3,4,8] [2] [(0,[4])]) K) (Sq4_n1v1 i) = nodeq4_n1v1 i (outq4_n1v1 i K) := by kernel_rfl
theorem GNq4_n1v1_ok : CSum Tryz.prog 21 Lq4_n1 (sumN decq4_n1v1 nodeDq4_n1v1 outq4_n1v1) := csum_node mixed tabOk envq4Ok 0 (exk [3,4,8] [2] [(0,[4])]) annLq4_n1_ok decq4_n1v1_ok nodeq4_n1v1_ok nodeq4_n1v1_nat
abbrev Iq4_n1v2 := (Int) × (Int) × (Int) × (Int) × (Int)
abbrev Yq4_n1v2 := (Int)
def Sq4_n1v2 : Iq4_n1v2 → St := fun (t3,o0_0,o0_1,o0_2,o0_3) => { env := [(3,.int .i64 t3),(4,.ptr 0 0),(8,.int .i64 (1))],stk := [[]],H := [.cells [.int .u8 o0_0,.int .u8 o0_1,.int .u8 o0_2,.int .u8 o0_3]],blk := 503808 }
def decPq4_n1v2 (s : St) : Option {x : Iq4_n1v2 // s = Sq4_n1v2 x} := match s with
  | { env := [(3,.int .i64 t3),(4,.ptr 0 0),(8,.int .i64 r1)],stk := [[]],H := [.cells [.int .u8 o0_0,.int .u8 o0_1,.int .u8 o0_2,.int .u8 o0_3]],blk := 503808 } => if h1 : r1 = 1 then some ⟨(t3,o0_0,o0_1,o0_2,o0_3),by subst h1; rfl⟩ else none
  | _ => none
def decq4_n1v2 (s : St) : Option Iq4_n1v2 := pk (decPq4_n1v2 s)
theorem decq4_n1v2_ok (s : St) (x : Iq4_n1v2) (h : decq4_n1v2 s = some x) : s = Sq4_n1v2 x := pk_ok (o := decPq4_n1v2 s) h
def outq4_n1v2 : Iq4_n1v2 → (Ex → St → Ans) → Yq4_n1v2 → Ans := fun (t3,o0_0,o0_1,o0_2,o0_3) K => fun o0_1_y => K (Ex.norm) { env := [(3,.int .i64 t3),(4,.ptr 0 0),(8,.int .i64 (2))],stk := [[]],H := [.cells [.int .u8 o0_0,.int .u8 o0_1_y,.int .u8 o0_2,.int .u8 o0_3]],blk := 503809 }
def nodeq4_n1v2 {β : Type} : Iq4_n1v2 → (Yq4_n1v2 → Option β) → Option β := fun (t3,o0_0,o0_1,o0_2,o0_3) exit => (exit (IntKind.wrap .u8 (Int.fdiv t3 (256 : Int))))
def nodeDq4_n1v2 (i : Iq4_n1v2) : Option Yq4_n1v2 := nodeq4_n1v2 i some
theorem nodeq4_n1v2_nat (i : Iq4_n1v2) (k : Yq4_n1v2 → Ans) : nodeq4_n1v2 i k = bindO (nodeDq4_n1v2 i) k := by
  obtain ⟨t3,o0_0,o0_1,o0_2,o0_3⟩ := i
  simp only [nodeDq4_n1v2,nodeq4_n1v2,bindO_cond,bindO_assoc,bindO_none,bindO_pure,bindO_elim,bindO_unP,bindO_empty]
theorem nodeq4_n1v2_ok (i : Iq4_n1v2) (K : Ex → St → Ans) : codeI Tryz.tab envq4 noHint (codeD Tryz.tab envq4 noHint 0 64) 70 21 annLq4_n1 Lq4_n1 (weakP 0 (exk [3,4,8] [2] [(0,[4])]) K) (Sq4_n1v2 i) = nodeq4_n1v2 i (outq4_n1v2 i K) := by kernel_rfl
theorem GNq4_n1v2_ok : CSum Tryz.prog 21 Lq4_n1 (sumN decq4_n1v2 nodeDq4_n1v2 outq4_n1v2) := csum_node mixed tabOk envq4Ok 0 (exk [3,4,8] [2] [(0,[4])]) annLq4_n1_ok decq4_n1v2_ok nodeq4_n1v2_ok nodeq4_n1v2_nat
abbrev Iq4_n1v3 := (Int) × (Int) × (Int) × (Int) × (Int)
abbrev Yq4_n1v3 := (Int)
def Sq4_n1v3 : Iq4_n1v3 → St := fun (t3,o0_0,o0_1,o0_2,o0_3) => { env := [(3,.int .i64 t3),(4,.ptr 0 0),(8,.int .i64 (2))],stk := [[]],H := [.cells [.int .u8 o0_0,.int .u8 o0_1,.int .u8 o0_2,.int .u8 o0_3]],blk := 503808 }
def decPq4_n1v3 (s : St) : Option {x : Iq4_n1v3 // s = Sq4_n1v3 x} := match s with
  | { env := [(3,.int .i64 t3),(4,.ptr 0 0),(8,.int .i64 r1)],stk := [[]],H := [.cells [.int .u8 o0_0,.int .u8 o0_1,.int .u8 o0_2,.int .u8 o0_3]],blk := 503808 } => if h1 : r1 = 2 then some ⟨(t3,o0_0,o0_1,o0_2,o0_3),by subst h1; rfl⟩ else none
  | _ => none
def decq4_n1v3 (s : St) : Option Iq4_n1v3 := pk (decPq4_n1v3 s)
theorem decq4_n1v3_ok (s : St) (x : Iq4_n1v3) (h : decq4_n1v3 s = some x) : s = Sq4_n1v3 x := pk_ok (o := decPq4_n1v3 s) h
def outq4_n1v3 : Iq4_n1v3 → (Ex → St → Ans) → Yq4_n1v3 → Ans := fun (t3,o0_0,o0_1,o0_2,o0_3) K => fun o0_2_y => K (Ex.norm) { env := [(3,.int .i64 t3),(4,.ptr 0 0),(8,.int .i64 (3))],stk := [[]],H := [.cells [.int .u8 o0_0,.int .u8 o0_1,.int .u8 o0_2_y,.int .u8 o0_3]],blk := 503809 }
def nodeq4_n1v3 {β : Type} : Iq4_n1v3 → (Yq4_n1v3 → Option β) → Option β := fun (t3,o0_0,o0_1,o0_2,o0_3) exit => (exit (IntKind.wrap .u8 (Int.fdiv t3 (65536 : Int))))
def nodeDq4_n1v3 (i : Iq4_n1v3) : Option Yq4_n1v3 := nodeq4_n1v3 i some
theorem nodeq4_n1v3_nat (i : Iq4_n1v3) (k : Yq4_n1v3 → Ans) : nodeq4_n1v3 i k = bindO (nodeDq4_n1v3 i) k := by
  obtain ⟨t3,o0_0,o0_1,o0_2,o0_3⟩ := i
  simp only [nodeDq4_n1v3,nodeq4_n1v3,bindO_cond,bindO_assoc,bindO_none,bindO_pure,bindO_elim,bindO_unP,bindO_empty]
theorem nodeq4_n1v3_ok (i : Iq4_n1v3) (K : Ex → St → Ans) : codeI Tryz.tab envq4 noHint (codeD Tryz.tab envq4 noHint 0 64) 70 21 annLq4_n1 Lq4_n1 (weakP 0 (exk [3,4,8] [2] [(0,[4])]) K) (Sq4_n1v3 i) = nodeq4_n1v3 i (outq4_n1v3 i K) := by kernel_rfl
theorem GNq4_n1v3_ok : CSum Tryz.prog 21 Lq4_n1 (sumN decq4_n1v3 nodeDq4_n1v3 outq4_n1v3) := csum_node mixed tabOk envq4Ok 0 (exk [3,4,8] [2] [(0,[4])]) annLq4_n1_ok decq4_n1v3_ok nodeq4_n1v3_ok nodeq4_n1v3_nat
abbrev Iq4_n1v4 := (Int) × (Int) × (Int) × (Int) × (Int)
abbrev Yq4_n1v4 := (Int)
def Sq4_n1v4 : Iq4_n1v4 → St := fun (t3,o0_0,o0_1,o0_2,o0_3) => { env := [(3,.int .i64 t3),(4,.ptr 0 0),(8,.int .i64 (3))],stk := [[]],H := [.cells [.int .u8 o0_0,.int .u8 o0_1,.int .u8 o0_2,.int .u8 o0_3]],blk := 503808 }
def decPq4_n1v4 (s : St) : Option {x : Iq4_n1v4 // s = Sq4_n1v4 x} := match s with
  | { env := [(3,.int .i64 t3),(4,.ptr 0 0),(8,.int .i64 r1)],stk := [[]],H := [.cells [.int .u8 o0_0,.int .u8 o0_1,.int .u8 o0_2,.int .u8 o0_3]],blk := 503808 } => if h1 : r1 = 3 then some ⟨(t3,o0_0,o0_1,o0_2,o0_3),by subst h1; rfl⟩ else none
  | _ => none
def decq4_n1v4 (s : St) : Option Iq4_n1v4 := pk (decPq4_n1v4 s)
theorem decq4_n1v4_ok (s : St) (x : Iq4_n1v4) (h : decq4_n1v4 s = some x) : s = Sq4_n1v4 x := pk_ok (o := decPq4_n1v4 s) h
def outq4_n1v4 : Iq4_n1v4 → (Ex → St → Ans) → Yq4_n1v4 → Ans := fun (t3,o0_0,o0_1,o0_2,o0_3) K => fun o0_3_y => K (Ex.norm) { env := [(3,.int .i64 t3),(4,.ptr 0 0),(8,.int .i64 (4))],stk := [[]],H := [.cells [.int .u8 o0_0,.int .u8 o0_1,.int .u8 o0_2,.int .u8 o0_3_y]],blk := 503809 }
def nodeq4_n1v4 {β : Type} : Iq4_n1v4 → (Yq4_n1v4 → Option β) → Option β := fun (t3,o0_0,o0_1,o0_2,o0_3) exit => (exit (IntKind.wrap .u8 (Int.fdiv t3 (16777216 : Int))))
def nodeDq4_n1v4 (i : Iq4_n1v4) : Option Yq4_n1v4 := nodeq4_n1v4 i some
theorem nodeq4_n1v4_nat (i : Iq4_n1v4) (k : Yq4_n1v4 → Ans) : nodeq4_n1v4 i k = bindO (nodeDq4_n1v4 i) k := by
  obtain ⟨t3,o0_0,o0_1,o0_2,o0_3⟩ := i
  simp only [nodeDq4_n1v4,nodeq4_n1v4,bindO_cond,bindO_assoc,bindO_none,bindO_pure,bindO_elim,bindO_unP,bindO_empty]
theorem nodeq4_n1v4_ok (i : Iq4_n1v4) (K : Ex → St → Ans) : codeI Tryz.tab envq4 noHint (codeD Tryz.tab envq4 noHint 0 64) 70 21 annLq4_n1 Lq4_n1 (weakP 0 (exk [3,4,8] [2] [(0,[4])]) K) (Sq4_n1v4 i) = nodeq4_n1v4 i (outq4_n1v4 i K) := by kernel_rfl
theorem GNq4_n1v4_ok : CSum Tryz.prog 21 Lq4_n1 (sumN decq4_n1v4 nodeDq4_n1v4 outq4_n1v4) := csum_node mixed tabOk envq4Ok 0 (exk [3,4,8] [2] [(0,[4])]) annLq4_n1_ok decq4_n1v4_ok nodeq4_n1v4_ok nodeq4_n1v4_nat
noncomputable def Gq4_n1 : (Ex → St → Ans) → St → Ans := (altN decq4_n1 (sumN decq4_n1 nodeDq4_n1 outq4_n1) (altN decq4_n1v1 (sumN decq4_n1v1 nodeDq4_n1v1 outq4_n1v1) (altN decq4_n1v2 (sumN decq4_n1v2 nodeDq4_n1v2 outq4_n1v2) (altN decq4_n1v3 (sumN decq4_n1v3 nodeDq4_n1v3 outq4_n1v3) (sumN decq4_n1v4 nodeDq4_n1v4 outq4_n1v4)))))
theorem Gq4_n1_ok : CSum Tryz.prog 21 Lq4_n1 Gq4_n1 := (csum_altN GNq4_n1_ok (csum_altN GNq4_n1v1_ok (csum_altN GNq4_n1v2_ok (csum_altN GNq4_n1v3_ok GNq4_n1v4_ok))))
noncomputable def Lq4_n0 : Code := codeAt [1,1,1,0,1] bq4
noncomputable def annLq4_n0 : Ann := (.block (.at 0 [3,4,8] (.loop (.cut 0 [3,4,8] Gq4_n1))))
theorem annLq4_n0_ok : AnnOk Tryz.prog 21 Lq4_n0 annLq4_n0 := (annOk_at Gq4_n1_ok)
abbrev Iq4_n0 := (Int)
abbrev Yq4_n0 := (Int) × (Int) × (Int) × (Int)
def Sq4_n0 : Iq4_n0 → St := fun t3 => { env := [(3,.int .i64 t3),(4,.ptr 0 0),(8,.int .i64 (0))],stk := [[]],H := [.cells [.int .u8 (0),.int .u8 (0),.int .u8 (0),.int .u8 (0)]],blk := 503808 }
def decPq4_n0 (s : St) : Option {x : Iq4_n0 // s = Sq4_n0 x} := match s with
  | { env := [(3,.int .i64 t3),(4,.ptr 0 0),(8,.int .i64 r1)],stk := [[]],H := [.cells [.int .u8 r2,.int .u8 r3,.int .u8 r4,.int .u8 r5]],blk := 503808 } => if h1 : r1 = 0 then if h2 : r2 = 0 then if h3 : r3 = 0 then if h4 : r4 = 0 then if h5 : r5 = 0 then some ⟨(t3),by subst h1 h2 h3 h4 h5; rfl⟩ else none else none else none else none else none
  | _ => none
def decq4_n0 (s : St) : Option Iq4_n0 := pk (decPq4_n0 s)
theorem decq4_n0_ok (s : St) (x : Iq4_n0) (h : decq4_n0 s = some x) : s = Sq4_n0 x := pk_ok (o := decPq4_n0 s) h
def outq4_n0 : Iq4_n0 → (Ex → St → Ans) → Yq4_n0 → Ans := fun t3 K => unP fun o0_0_y => unP fun o0_1_y => unP fun o0_2_y o0_3_y => K (Ex.norm) { env := [(4,.ptr 0 0)],stk := [[]],H := [.cells [.int .u8 o0_0_y,.int .u8 o0_1_y,.int .u8 o0_2_y,.int .u8 o0_3_y]],blk := 503808 }
def nodeq4_n0 {β : Type} : Iq4_n0 → (Yq4_n0 → Option β) → Option β := fun t3 exit => (bindO (nodeDq4_n1v1 (t3,(0 : Int),(0 : Int),(0 : Int),(0 : Int))) fun o0_0 => (bindO (nodeDq4_n1v2 (t3,o0_0,(0 : Int),(0 : Int),(0 : Int))) fun o0_1 => (bindO (nodeDq4_n1v3 (t3,o0_0,o0_1,(0 : Int),(0 : Int))) fun o0_2 => (bindO (nodeDq4_n1v4 (t3,o0_0,o0_1,o0_2,(0 : Int))) fun o0_3 => (bindO (nodeDq4_n1 (t3,o0_0,o0_1,o0_2,o0_3)) fun _ => (exit (o0_0,o0_1,o0_2,o0_3)))))))
def nodeDq4_n0 (i : Iq4_n0) : Option Yq4_n0 := nodeq4_n0 i some
theorem nodeq4_n0_nat (i : Iq4_n0) (k : Yq4_n0 → Ans) : nodeq4_n0 i k = bindO (nodeDq4_n0 i) k := by
  obtain z := i
  simp only [nodeDq4_n0,nodeq4_n0,bindO_cond,bindO_assoc,bindO_none,bindO_pure,bindO_elim,bindO_unP,bindO_empty]
theorem nodeq4_n0_ok (i : Iq4_n0) (K : Ex → St → Ans) : codeI Tryz.tab envq4 noHint (codeD Tryz.tab envq4 noHint 0 64) 70 21 annLq4_n0 Lq4_n0 (weakP 0 (exk [4] [2] []) K) (Sq4_n0 i) = nodeq4_n0 i (outq4_n0 i K) := by kernel_rfl
theorem GNq4_n0_ok : CSum Tryz.prog 21 Lq4_n0 (sumN decq4_n0 nodeDq4_n0 outq4_n0) := csum_node mixed tabOk envq4Ok 0 (exk [4] [2] []) annLq4_n0_ok decq4_n0_ok nodeq4_n0_ok nodeq4_n0_nat
noncomputable def Gq4_n0 : (Ex → St → Ans) → St → Ans := (sumN decq4_n0 nodeDq4_n0 outq4_n0)
theorem Gq4_n0_ok : CSum Tryz.prog 21 Lq4_n0 Gq4_n0 := GNq4_n0_ok
noncomputable def annq4 : Ann := (.seq .none (.seq .none (.seq .none (.seq (.seq .none (.cut 0 [3,4,8] Gq4_n0)) .none))))
theorem annq4_ok : AnnOk Tryz.prog 21 bq4 annq4 := ⟨(annOk_none _ _ _),⟨(annOk_none _ _ _),⟨(annOk_none _ _ _),⟨⟨(annOk_none _ _ _),Gq4_n0_ok⟩,(annOk_none _ _ _)⟩⟩⟩⟩
abbrev Aq4 := (List UInt8)
abbrev Yq4 := (List UInt8)
def fnq4 {β : Type} : Aq4 → (Yq4 → Option β) → Option β := fun a0 exit => (bindO (fnDq1 (a0)) fun r => (bindO (nodeDq4_n0 (r)) (unP fun o0_0 => unP fun o0_1 => unP fun o0_2 o0_3 => (exit (bytesOf [o0_0,o0_1,o0_2,o0_3])))))
def fnDq4 (a : Aq4) : Option Yq4 := fnq4 a some
theorem fnq4_nat (a : Aq4) (k : Yq4 → Ans) : fnq4 a k = bindO (fnDq4 a) k := by
  obtain z := a
  simp only [fnDq4,fnq4,bindO_cond,bindO_assoc,bindO_none,bindO_pure,bindO_elim,bindO_unP,bindO_empty]
def argsq4 : Aq4 → List AV := fun a0 => [.str a0]
def decPAq4 (l : List AV) : Option {a : Aq4 // l = argsq4 a} := match l with
  | [.str a0] => some ⟨(a0),rfl⟩
  | _ => none
def decAq4 (l : List AV) : Option Aq4 := pk (decPAq4 l)
theorem decAq4_ok (l : List AV) (a : Aq4) (h : decAq4 l = some a) : l = argsq4 a := pk_ok (o := decPAq4 l) h
def rendq4 : Aq4 → Yq4 → AV := fun a0 => fun r_y => .str r_y
theorem rendq4_ok : ∀ (a : Aq4) (y : Yq4),(rendq4 a y).closed1 = true := by
  rintro z y <;> first | rfl | exact Empty.elim y
theorem fnq4_ok (a : Aq4) : fnE Tryz.tab envq4 noHint 0 70 123 Tryz.f123.ntmps Tryz.f123.results.toList annq4 bq4 (argsq4 a) [] (fun v _ => some (v,[])) = fnq4 a (fun y => some (rendq4 a y,[])) := by kernel_rfl
def vFq4 (a : Aq4) (K : AV → Ans) : Ans := bindO (fnDq4 a) fun y => K (rendq4 a y)
def Fq4 : List AV → (AV → Ans) → Ans := fun l K => bindO (decAq4 l) fun a => vFq4 a K
theorem Fq4_ok : PureOk Tryz.prog 123 Fq4 := pure_mkD (hint := noHint) (d := 0) (n := 70) mixed tabOk envq4Ok Tryz.func123 (bodySome (by kernel_rfl)) (by decide +kernel) annq4_ok decAq4_ok fnq4_ok fnq4_nat rendq4_ok
--@ region_Pad
noncomputable def envq70 : Env := [(109,.pure Fstrings_Repeat)]
theorem envq70Ok : EnvOk Tryz.prog envq70 := EnvOk.cons Fstrings_Repeat_ok (EnvOk.nil)
noncomputable def bq70 : Code := Tryz.f122.body.getD .skip
noncomputable def annq70 : Ann := .none
theorem annq70_ok : AnnOk Tryz.prog 15 bq70 annq70 := (annOk_none _ _ _)
abbrev Aq70 := (List UInt8)
abbrev Yq70 := (List UInt8)
def fnq70 {β : Type} : Aq70 → (Yq70 → Option β) → Option β := fun a0 exit => (bif decide (Int.tmod (↑(List.length a0) : Int) (64 : Int) > (0 : Int)) then (bindO (fnDstrings_Repeat ([(0 : UInt8)],IntKind.wrap .i64 ((64 : Int) - Int.tmod (↑(List.length a0) : Int) (64 : Int)))) fun r => (bif Nat.ble (List.length a0 + List.length r) (9223372036854775807 : Nat) then (exit (a0 ++ r)) else none)) else (exit (a0)))
def fnDq70 (a : Aq70) : Option Yq70 := fnq70 a some
theorem fnq70_nat (a : Aq70) (k : Yq70 → Ans) : fnq70 a k = bindO (fnDq70 a) k := by
  obtain z := a
  simp only [fnDq70,fnq70,bindO_cond,bindO_assoc,bindO_none,bindO_pure,bindO_elim,bindO_unP,bindO_empty]
def argsq70 : Aq70 → List AV := fun a0 => [.str a0]
def decPAq70 (l : List AV) : Option {a : Aq70 // l = argsq70 a} := match l with
  | [.str a0] => some ⟨(a0),rfl⟩
  | _ => none
def decAq70 (l : List AV) : Option Aq70 := pk (decPAq70 l)
theorem decAq70_ok (l : List AV) (a : Aq70) (h : decAq70 l = some a) : l = argsq70 a := pk_ok (o := decPAq70 l) h
def rendq70 : Aq70 → Yq70 → AV := fun a0 => fun r_y => .str r_y
theorem rendq70_ok : ∀ (a : Aq70) (y : Yq70),(rendq70 a y).closed1 = true := by
  rintro z y <;> first | rfl | exact Empty.elim y
theorem fnq70_ok (a : Aq70) : fnE Tryz.tab envq70 noHint 0 70 122 Tryz.f122.ntmps Tryz.f122.results.toList annq70 bq70 (argsq70 a) [] (fun v _ => some (v,[])) = fnq70 a (fun y => some (rendq70 a y,[])) := by kernel_rfl
def vFq70 (a : Aq70) (K : AV → Ans) : Ans := bindO (fnDq70 a) fun y => K (rendq70 a y)
def Fq70 : List AV → (AV → Ans) → Ans := fun l K => bindO (decAq70 l) fun a => vFq70 a K
theorem Fq70_ok : PureOk Tryz.prog 122 Fq70 := pure_mkD (hint := noHint) (d := 0) (n := 70) mixed tabOk envq70Ok Tryz.func122 (bodySome (by kernel_rfl)) (by decide +kernel) annq70_ok decAq70_ok fnq70_ok fnq70_nat rendq70_ok
--@ journal_Put
noncomputable def envq22 : Env := [(60,.func Fq47),(121,.pure Fq16),(58,.func Fq44),(123,.pure Fq4),(122,.pure Fq70)]
theorem envq22Ok : EnvOk Tryz.prog envq22 := EnvOk.cons Fq47_ok (EnvOk.cons Fq16_ok (EnvOk.cons Fq44_ok (EnvOk.cons Fq4_ok (EnvOk.cons Fq70_ok (EnvOk.nil)))))
noncomputable def bq22 : Code := Tryz.f54.body.getD .skip
noncomputable def Lq22_n0 : Code := codeAt [1,0,0] bq22
noncomputable def annLq22_n0 : Ann := .none
theorem annLq22_n0_ok : AnnOk Tryz.prog 23 Lq22_n0 annLq22_n0 := (annOk_none _ _ _)
abbrev Iq22_n0 := (Int) × (List Int)
abbrev Yq22_n0 := (Bool)
def Sq22_n0 : Iq22_n0 → St := fun (o0_0,o1) => { env := [(0,.ptr 0 0)],stk := [[(0,.ptr 0 0)]],H := [.cells [.int .i64 o0_0,.own 1],.arr (.int .u8) o1],blk := 221184 }
def decPq22_n0 (s : St) : Option {x : Iq22_n0 // s = Sq22_n0 x} := match s with
  | { env := [(0,.ptr 0 0)],stk := [[(0,.ptr 0 0)]],H := [.cells [.int .i64 o0_0,.own 1],.arr (.int .u8) o1],blk := 221184 } => some ⟨(o0_0,o1),rfl⟩
  | _ => none
def decq22_n0 (s : St) : Option Iq22_n0 := pk (decPq22_n0 s)
theorem decq22_n0_ok (s : St) (x : Iq22_n0) (h : decq22_n0 s = some x) : s = Sq22_n0 x := pk_ok (o := decPq22_n0 s) h
def outq22_n0 : Iq22_n0 → (Ex → St → Ans) → Yq22_n0 → Ans := fun (o0_0,o1) K => fun t11_y => K (Ex.norm) { env := [(0,.ptr 0 0),(11,.bool t11_y)],stk := [[(0,.ptr 0 0)]],H := [.cells [.int .i64 o0_0,.own 1],.arr (.int .u8) o1],blk := 221184 }
def nodeq22_n0 {β : Type} : Iq22_n0 → (Yq22_n0 → Option β) → Option β := fun (o0_0,o1) exit => (bindO (fnDq47 (o0_0,o1)) fun _ => (exit (decide (o0_0 > (24 : Int)))))
def nodeDq22_n0 (i : Iq22_n0) : Option Yq22_n0 := nodeq22_n0 i some
theorem nodeq22_n0_nat (i : Iq22_n0) (k : Yq22_n0 → Ans) : nodeq22_n0 i k = bindO (nodeDq22_n0 i) k := by
  obtain ⟨o0_0,o1⟩ := i
  simp only [nodeDq22_n0,nodeq22_n0,bindO_cond,bindO_assoc,bindO_none,bindO_pure,bindO_elim,bindO_unP,bindO_empty]
theorem nodeq22_n0_ok (i : Iq22_n0) (K : Ex → St → Ans) : codeI Tryz.tab envq22 noHint (codeD Tryz.tab envq22 noHint 0 64) 70 23 annLq22_n0 Lq22_n0 (weakP 2 (exk [0,11] [2,3] []) K) (Sq22_n0 i) = nodeq22_n0 i (outq22_n0 i K) := by kernel_rfl
theorem GNq22_n0_ok : CSum Tryz.prog 23 Lq22_n0 (sumN decq22_n0 nodeDq22_n0 outq22_n0) := csum_node mixed tabOk envq22Ok 2 (exk [0,11] [2,3] []) annLq22_n0_ok decq22_n0_ok nodeq22_n0_ok nodeq22_n0_nat
noncomputable def Gq22_n0 : (Ex → St → Ans) → St → Ans := (sumN decq22_n0 nodeDq22_n0 outq22_n0)
theorem Gq22_n0_ok : CSum Tryz.prog 23 Lq22_n0 Gq22_n0 := GNq22_n0_ok
noncomputable def annq22 : Ann := (.seq .none (.seq (.seq (.cut 2 [0] Gq22_n0) .none) .none))
theorem annq22_ok : AnnOk Tryz.prog 23 bq22 annq22 := ⟨(annOk_none _ _ _),⟨⟨Gq22_n0_ok,(annOk_none _ _ _)⟩,(annOk_none _ _ _)⟩⟩
abbrev Aq22 := (Int) × (List Int)
abbrev Yq22 := (List UInt8) × (Int)
def fnq22 {β : Type} : Aq22 → (Yq22 → Option β) → Option β := fun (o0_0,o1) exit => (bindO (nodeDq22_n0 (o0_0,o1)) fun t11 => (bif t11 then (exit ([],(3 : Int))) else (bindO (fnDq47 (o0_0,o1)) fun _ => (bindO (fnDq16 ([(74 : UInt8)],o0_0,(1 : Int))) fun r => (bindO (fnDq44 (o0_0,o1)) fun r_2 => (bif Nat.ble (List.length r + List.length r_2) (9223372036854775807 : Nat) then (bindO (fnDq4 (r ++ r_2)) fun r_3 => (bif Nat.ble (List.length (r ++ r_2) + List.length r_3) (9223372036854775807 : Nat) then (bindO (fnDq70 (r ++ r_2 ++ r_3)) fun r_4 => (exit (r_4,(0 : Int)))) else none)) else none))))))
def fnDq22 (a : Aq22) : Option Yq22 := fnq22 a some
theorem fnq22_nat (a : Aq22) (k : Yq22 → Ans) : fnq22 a k = bindO (fnDq22 a) k := by
  obtain ⟨o0_0,o1⟩ := a
  simp only [fnDq22,fnq22,bindO_cond,bindO_assoc,bindO_none,bindO_pure,bindO_elim,bindO_unP,bindO_empty]
def argsq22 : Aq22 → List AV × List AE.Obj := fun (o0_0,o1) => ([.ptr 0 0],[.cells [.int .i64 o0_0,.own 1],.arr (.int .u8) o1])
def decPAq22 (l : List AV) (H : List AE.Obj) : Option {a : Aq22 // (l,H) = argsq22 a} := match l,H with
  | [.ptr 0 0],[.cells [.int .i64 o0_0,.own 1],.arr (.int .u8) o1] => some ⟨(o0_0,o1),rfl⟩
  | _,_ => none
def decAq22 (l : List AV) (H : List AE.Obj) : Option Aq22 := pk (decPAq22 l H)
theorem decAq22_ok (l : List AV) (H : List AE.Obj) (a : Aq22) (h : decAq22 l H = some a) : (l,H) = argsq22 a := pk_ok (o := decPAq22 l H) h
def outq22 : Aq22 → (AV → List AE.Obj → Ans) → Yq22 → Ans := fun (o0_0,o1) K => unP fun r_0_y r_1_y => K (.tup [.str r_0_y,.int .i64 r_1_y]) [.cells [.int .i64 o0_0,.own 1],.arr (.int .u8) o1]
theorem fnq22_ok (a : Aq22) (K : AV → List AE.Obj → Ans) : fnE Tryz.tab envq22 noHint 0 70 54 Tryz.f54.ntmps Tryz.f54.results.toList annq22 bq22 (argsq22 a).1 (argsq22 a).2 K = fnq22 a (outq22 a K) := by kernel_rfl
def vFq22 (a : Aq22) (K : AV → List AE.Obj → Ans) : Ans := bindO (fnDq22 a) fun y => outq22 a K y
def Fq22 : List AV → List AE.Obj → (AV → List AE.Obj → Ans) → Ans := fun l H K => bindO (decAq22 l H) fun a => vFq22 a K
theorem Fq22_ok : FuncOk Tryz.prog 54 Fq22 := func_mkD (hint := noHint) (d := 0) (n := 70) mixed tabOk envq22Ok Tryz.func54 (bodySome (by kernel_rfl)) (by decide +kernel) annq22_ok decAq22_ok fnq22_ok fnq22_nat
--@ ref02_Fits
noncomputable def envq53 : Env := []
theorem envq53Ok : EnvOk Tryz.prog envq53 := EnvOk.nil
noncomputable def bq53 : Code := Tryz.f186.body.getD .skip
noncomputable def Lq53_n1 : Code := codeAt [1,1,0,1,0,0] bq53
noncomputable def annLq53_n1 : Ann := .at 0 [0,1,5] (.loop .none)
theorem annLq53_n1_ok : AnnOk Tryz.prog 25 (.loop Lq53_n1) annLq53_n1 := annOk_at (annOk_none _ _ _)
abbrev Iq53_n1 := (Int)
abbrev Yq53_n1 := (Int)
abbrev Vq53_n1 := (Int) × (Int)
def Sq53_n1 : Iq53_n1 → Vq53_n1 → St := fun t1 (t0,t5) => { env := [(0,.int .i64 t0),(1,.int .i64 t1),(5,.int .i64 t5)],stk := [[]],H := [],blk := 761856 }
def decPq53_n1 (s : St) : Option {x : Iq53_n1 × Vq53_n1 // s = Sq53_n1 x.1 x.2} := match s with
  | { env := [(0,.int .i64 t0),(1,.int .i64 t1),(5,.int .i64 t5)],stk := [[]],H := [],blk := 761856 } => some ⟨(t1,(t0,t5)),rfl⟩
  | _ => none
def decq53_n1 (s : St) : Option (Iq53_n1 × Vq53_n1) := pk (decPq53_n1 s)
theorem decq53_n1_ok (s : St) (x : Iq53_n1 × Vq53_n1) (h : decq53_n1 s = some x) : s = Sq53_n1 x.1 x.2 := pk_ok (o := decPq53_n1 s) h
def outq53_n1 : Iq53_n1 → (Ex → St → Ans) → Yq53_n1 → Ans := fun t1 K => fun t0_y => K (Ex.exit 0) { env := [(0,.int .i64 t0_y)],stk := [[]],H := [],blk := 761856 }
def stepq53_n1 {β : Type} : Iq53_n1 → Vq53_n1 → (Vq53_n1 → Option β) → (Yq53_n1 → Option β) → Option β := fun t1 (t0,t5) next exit => (bif decide (t5 < t1) then (next (IntKind.wrap .i64 (Int.tdiv t0 (256 : Int)),IntKind.wrap .i64 (t5 + (1 : Int)))) else (exit (t0)))
def stepDq53_n1 (i : Iq53_n1) (v : Vq53_n1) : Option (Vq53_n1 ⊕ Yq53_n1) := stepq53_n1 i v (fun v => some (.inl v)) (fun y => some (.inr y))
theorem stepq53_n1_nat (i : Iq53_n1) (v : Vq53_n1) (next : Vq53_n1 → Ans) (exit : Yq53_n1 → Ans) : stepq53_n1 i v next exit = bindO (stepDq53_n1 i v) (Sum.elim next exit) := by
  obtain z := i
  obtain ⟨t0,t5⟩ := v
  simp only [stepDq53_n1,stepq53_n1,bindO_cond,bindO_assoc,bindO_none,bindO_pure,bindO_elim,bindO_unP,bindO_empty,Sum.elim_inl,Sum.elim_inr]
theorem stepq53_n1_ok (n : Nat) (i : Iq53_n1) (v : Vq53_n1) (K : Ex → St → Ans) : codeI Tryz.tab envq53 noHint (codeD Tryz.tab envq53 noHint 0 64) (n+1) 25 annLq53_n1 (.loop Lq53_n1) (weakP 0 (exk [0] [4] [(0,[0])]) K) (Sq53_n1 i v) = stepq53_n1 i v (fun v' => codeI Tryz.tab envq53 noHint (codeD Tryz.tab envq53 noHint 0 64) n 25 annLq53_n1 (.loop Lq53_n1) (weakP 0 (exk [0] [4] [(0,[0])]) K) (Sq53_n1 i v')) (fun y => outq53_n1 i K y) := by kernel_rfl
theorem GNq53_n1_ok : CSum Tryz.prog 25 (.loop Lq53_n1) (sumL decq53_n1 stepDq53_n1 outq53_n1) := csum_loop mixed tabOk envq53Ok 0 (exk [0] [4] [(0,[0])]) annLq53_n1_ok decq53_n1_ok stepq53_n1_ok stepq53_n1_nat
noncomputable def Gq53_n1 : (Ex → St → Ans) → St → Ans := (sumL decq53_n1 stepDq53_n1 outq53_n1)
theorem Gq53_n1_ok : CSum Tryz.prog 25 (.loop Lq53_n1) Gq53_n1 := GNq53_n1_ok
noncomputable def Lq53_n0 : Code := codeAt [1,0,0] bq53
noncomputable def annLq53_n0 : Ann := .none
theorem annLq53_n0_ok : AnnOk Tryz.prog 25 Lq53_n0 annLq53_n0 := (annOk_none _ _ _)
abbrev Iq53_n0 := (Int) × (Int)
abbrev Yq53_n0 := (Bool)
def Sq53_n0 : Iq53_n0 → St := fun (t0,t1) => { env := [(0,.int .i64 t0),(1,.int .i64 t1)],stk := [[]],H := [],blk := 761856 }
def decPq53_n0 (s : St) : Option {x : Iq53_n0 // s = Sq53_n0 x} := match s with
  | { env := [(0,.int .i64 t0),(1,.int .i64 t1)],stk := [[]],H := [],blk := 761856 } => some ⟨(t0,t1),rfl⟩
  | _ => none
def decq53_n0 (s : St) : Option Iq53_n0 := pk (decPq53_n0 s)
theorem decq53_n0_ok (s : St) (x : Iq53_n0) (h : decq53_n0 s = some x) : s = Sq53_n0 x := pk_ok (o := decPq53_n0 s) h
def outq53_n0 : Iq53_n0 → (Ex → St → Ans) → Yq53_n0 → Ans := fun (t0,t1) K => fun t15_y => K (Ex.norm) { env := [(0,.int .i64 t0),(1,.int .i64 t1),(15,.bool t15_y)],stk := [[]],H := [],blk := 761856 }
def nodeq53_n0 {β : Type} : Iq53_n0 → (Yq53_n0 → Option β) → Option β := fun (t0,t1) exit => (bif decide (t1 < (1 : Int)) then (exit (true)) else (bif decide (t1 > (7 : Int)) then (exit (true)) else (exit (decide (t0 < (0 : Int))))))
def nodeDq53_n0 (i : Iq53_n0) : Option Yq53_n0 := nodeq53_n0 i some
theorem nodeq53_n0_nat (i : Iq53_n0) (k : Yq53_n0 → Ans) : nodeq53_n0 i k = bindO (nodeDq53_n0 i) k := by
  obtain ⟨t0,t1⟩ := i
  simp only [nodeDq53_n0,nodeq53_n0,bindO_cond,bindO_assoc,bindO_none,bindO_pure,bindO_elim,bindO_unP,bindO_empty]
theorem nodeq53_n0_ok (i : Iq53_n0) (K : Ex → St → Ans) : codeI Tryz.tab envq53 noHint (codeD Tryz.tab envq53 noHint 0 64) 70 25 annLq53_n0 Lq53_n0 (weakP 0 (exk [0,1,15] [4] []) K) (Sq53_n0 i) = nodeq53_n0 i (outq53_n0 i K) := by kernel_rfl
theorem GNq53_n0_ok : CSum Tryz.prog 25 Lq53_n0 (sumN decq53_n0 nodeDq53_n0 outq53_n0) := csum_node mixed tabOk envq53Ok 0 (exk [0,1,15] [4] []) annLq53_n0_ok decq53_n0_ok nodeq53_n0_ok nodeq53_n0_nat
noncomputable def Gq53_n0 : (Ex → St → Ans) → St → Ans := (sumN decq53_n0 nodeDq53_n0 outq53_n0)
theorem Gq53_n0_ok : CSum Tryz.prog 25 Lq53_n0 Gq53_n0 := GNq53_n0_ok
noncomputable def annq53 : Ann := (.seq .none (.seq (.seq (.cut 0 [0,1] Gq53_n0) .none) (.seq (.seq .none (.block (.cut 0 [0,1,5] Gq53_n1))) .none)))
theorem annq53_ok : AnnOk Tryz.prog 25 bq53 annq53 := ⟨(annOk_none _ _ _),⟨⟨Gq53_n0_ok,(annOk_none _ _ _)⟩,⟨⟨(annOk_none _ _ _),Gq53_n1_ok⟩,(annOk_none _ _ _)⟩⟩⟩
abbrev Aq53 := (Int) × (Int)
abbrev Yq53 := (Bool)
def fnq53 {β : Type} : Aq53 → (Yq53 → Option β) → Option β := fun (a0,a1) exit => (bindO (nodeDq53_n0 (a0,a1)) fun t15 => (bif t15 then (exit (false)) else (bindO (loopD (stepDq53_n1 (a1)) FUEL (a0,(0 : Int))) fun t0 => (exit (t0 == (0 : Int))))))
def fnDq53 (a : Aq53) : Option Yq53 := fnq53 a some
theorem fnq53_nat (a : Aq53) (k : Yq53 → Ans) : fnq53 a k = bindO (fnDq53 a) k := by
  obtain ⟨a0,a1⟩ := a
  simp only [fnDq53,fnq53,bindO_cond,bindO_assoc,bindO_none,bindO_pure,bindO_elim,bindO_unP,bindO_empty]
def argsq53 : Aq53 → List AV := fun (a0,a1) => [.int .i64 a0,.int .i64 a1]
def decPAq53 (l : List AV) : Option {a : Aq53 // l = argsq53 a} := match l with
  | [.int .i64 a0,.int .i64 a1] => some ⟨(a0,a1),rfl⟩
  | _ => none
def decAq53 (l : List AV) : Option Aq53 := pk (decPAq53 l)
theorem decAq53_ok (l : List AV) (a : Aq53) (h : decAq53 l = some a) : l = argsq53 a := pk_ok (o := decPAq53 l) h
def rendq53 : Aq53 → Yq53 → AV := fun (a0,a1) => fun r_y => .bool r_y
theorem rendq53_ok : ∀ (a : Aq53) (y : Yq53),(rendq53 a y).closed1 = true := by
  rintro ⟨a0,a1⟩ y <;> first | rfl | exact Empty.elim y
theorem fnq53_ok (a : Aq53) : fnE Tryz.tab envq53 noHint 0 70 186 Tryz.f186.ntmps Tryz.f186.results.toList annq53 bq53 (argsq53 a) [] (fun v _ => some (v,[])) = fnq53 a (fun y => some (rendq53 a y,[])) := by kernel_rfl
def vFq53 (a : Aq53) (K : AV → Ans) : Ans := bindO (fnDq53 a) fun y => K (rendq53 a y)
def Fq53 : List AV → (AV → Ans) → Ans := fun l K => bindO (decAq53 l) fun a => vFq53 a K
theorem Fq53_ok : PureOk Tryz.prog 186 Fq53 := pure_mkD (hint := noHint) (d := 0) (n := 70) mixed tabOk envq53Ok Tryz.func186 (bodySome (by kernel_rfl)) (by decide +kernel) annq53_ok decAq53_ok fnq53_ok fnq53_nat rendq53_ok
--@ ref02_Put
noncomputable def envq54 : Env := [(186,.pure Fq53)]
theorem envq54Ok : EnvOk Tryz.prog envq54 := EnvOk.cons Fq53_ok (EnvOk.nil)
noncomputable def bq54 : Code := Tryz.f124.body.getD .skip
noncomputable def Lq54_n0 : Code := codeAt [1,1,1,0,1,0,0] bq54
noncomputable def annLq54_n0 : Ann := .at 0 [0,1,2,7,8] (.loop .none)
theorem annLq54_n0_ok : AnnOk Tryz.prog 31 (.loop Lq54_n0) annLq54_n0 := annOk_at (annOk_none _ _ _)
abbrev Iq54_n0 := (List UInt8) × (Int)
abbrev Yq54_n0 := (List UInt8)
abbrev Vq54_n0 := (Int) × (List UInt8) × (Int)
def Sq54_n0 : Iq54_n0 → Vq54_n0 → St := fun (t0,t2) (t1,t7,t8) => { env := [(0,.str t0),(1,.int .i64 t1),(2,.int .i64 t2),(7,.str t7),(8,.int .i64 t8)],stk := [[]],H := [],blk := 507904 }
def decPq54_n0 (s : St) : Option {x : Iq54_n0 × Vq54_n0 // s = Sq54_n0 x.1 x.2} := match s with
  | { env := [(0,.str t0),(1,.int .i64 t1),(2,.int .i64 t2),(7,.str t7),(8,.int .i64 t8)],stk := [[]],H := [],blk := 507904 } => some ⟨((t0,t2),(t1,t7,t8)),rfl⟩
  | _ => none
def decq54_n0 (s : St) : Option (Iq54_n0 × Vq54_n0) := pk (decPq54_n0 s)
theorem decq54_n0_ok (s : St) (x : Iq54_n0 × Vq54_n0) (h : decq54_n0 s = some x) : s = Sq54_n0 x.1 x.2 := pk_ok (o := decPq54_n0 s) h
def outq54_n0 : Iq54_n0 → (Ex → St → Ans) → Yq54_n0 → Ans := fun (t0,t2) K => fun t7_y => K (Ex.exit 0) { env := [(0,.str t0),(7,.str t7_y)],stk := [[]],H := [],blk := 507904 }
def stepq54_n0 {β : Type} : Iq54_n0 → Vq54_n0 → (Vq54_n0 → Option β) → (Yq54_n0 → Option β) → Option β := fun (t0,t2) (t1,t7,t8) next exit => (bif decide (t8 < t2) then (bif Nat.ble (List.length (bytesOf [IntKind.wrap .u8 (Int.tmod t1 (256 : Int))]) + List.length t7) (9223372036854775807 : Nat) then (next (IntKind.wrap .i64 (Int.tdiv t1 (256 : Int)),bytesOf [IntKind.wrap .u8 (Int.tmod t1 (256 : Int))] ++ t7,IntKind.wrap .i64 (t8 + (1 : Int)))) else none) else (exit (t7)))
def stepDq54_n0 (i : Iq54_n0) (v : Vq54_n0) : Option (Vq54_n0 ⊕ Yq54_n0) := stepq54_n0 i v (fun v => some (.inl v)) (fun y => some (.inr y))
theorem stepq54_n0_nat (i : Iq54_n0) (v : Vq54_n0) (next : Vq54_n0 → Ans) (exit : Yq54_n0 → Ans) : stepq54_n0 i v next exit = bindO (stepDq54_n0 i v) (Sum.elim next exit) := by
  obtain ⟨t0,t2⟩ := i
  obtain ⟨t1,t7,t8⟩ := v
  simp only [stepDq54_n0,stepq54_n0,bindO_cond,bindO_assoc,bindO_none,bindO_pure,bindO_elim,bindO_unP,bindO_empty,Sum.elim_inl,Sum.elim_inr]
theorem stepq54_n0_ok (n : Nat) (i : Iq54_n0) (v : Vq54_n0) (K : Ex → St → Ans) : codeI Tryz.tab envq54 noHint (codeD Tryz.tab envq54 noHint 0 64) (n+1) 31 annLq54_n0 (.loop Lq54_n0) (weakP 0 (exk [0,7] [6] [(0,[0,7])]) K) (Sq54_n0 i v) = stepq54_n0 i v (fun v' => codeI Tryz.tab envq54 noHint (codeD Tryz.tab envq54 noHint 0 64) n 31 annLq54_n0 (.loop Lq54_n0) (weakP 0 (exk [0,7] [6] [(0,[0,7])]) K) (Sq54_n0 i v')) (fun y => outq54_n0 i K y) := by kernel_rfl
theorem GNq54_n0_ok : CSum Tryz.prog 31 (.loop Lq54_n0) (sumL decq54_n0 stepDq54_n0 outq54_n0) := csum_loop mixed tabOk envq54Ok 0 (exk [0,7] [6] [(0,[0,7])]) annLq54_n0_ok decq54_n0_ok stepq54_n0_ok stepq54_n0_nat
noncomputable def Gq54_n0 : (Ex → St → Ans) → St → Ans := (sumL decq54_n0 stepDq54_n0 outq54_n0)
theorem Gq54_n0_ok : CSum Tryz.prog 31 (.loop Lq54_n0) Gq54_n0 := GNq54_n0_ok
noncomputable def annq54 : Ann := (.seq .none (.seq .none (.seq .none (.seq (.seq .none (.block (.cut 0 [0,1,2,7,8] Gq54_n0))) .none))))
theorem annq54_ok : AnnOk Tryz.prog 31 bq54 annq54 := ⟨(annOk_none _ _ _),⟨(annOk_none _ _ _),⟨(annOk_none _ _ _),⟨⟨(annOk_none _ _ _),Gq54_n0_ok⟩,(annOk_none _ _ _)⟩⟩⟩⟩
abbrev Aq54 := (List UInt8) × (Int) × (Int)
abbrev Yq54 := (List UInt8)
def fnq54 {β : Type} : Aq54 → (Yq54 → Option β) → Option β := fun (a0,a1,a2) exit => (bindO (fnDq53 (a1,a2)) fun r => (bif !r then (exit (a0)) else (bindO (loopD (stepDq54_n0 (a0,a2)) FUEL (a1,[],(0 : Int))) fun t7 => (bif Nat.ble (List.length a0 + List.length t7) (9223372036854775807 : Nat) then (exit (a0 ++ t7)) else none))))
def fnDq54 (a : Aq54) : Option Yq54 := fnq54 a some
theorem fnq54_nat (a : Aq54) (k : Yq54 → Ans) : fnq54 a k = bindO (fnDq54 a) k := by
  obtain ⟨a0,a1,a2⟩ := a
  simp only [fnDq54,fnq54,bindO_cond,bindO_assoc,bindO_none,bindO_pure,bindO_elim,bindO_unP,bindO_empty]
def argsq54 : Aq54 → List AV := fun (a0,a1,a2) => [.str a0,.int .i64 a1,.int .i64 a2]
def decPAq54 (l : List AV) : Option {a : Aq54 // l = argsq54 a} := match l with
  | [.str a0,.int .i64 a1,.int .i64 a2] => some ⟨(a0,a1,a2),rfl⟩
  | _ => none
def decAq54 (l : List AV) : Option Aq54 := pk (decPAq54 l)
theorem decAq54_ok (l : List AV) (a : Aq54) (h : decAq54 l = some a) : l = argsq54 a := pk_ok (o := decPAq54 l) h
def rendq54 : Aq54 → Yq54 → AV := fun (a0,a1,a2) => fun r_y => .str r_y
theorem rendq54_ok : ∀ (a : Aq54) (y : Yq54),(rendq54 a y).closed1 = true := by
  rintro ⟨a0,a1,a2⟩ y <;> first | rfl | exact Empty.elim y
theorem fnq54_ok (a : Aq54) : fnE Tryz.tab envq54 noHint 0 70 124 Tryz.f124.ntmps Tryz.f124.results.toList annq54 bq54 (argsq54 a) [] (fun v _ => some (v,[])) = fnq54 a (fun y => some (rendq54 a y,[])) := by kernel_rfl
def vFq54 (a : Aq54) (K : AV → Ans) : Ans := bindO (fnDq54 a) fun y => K (rendq54 a y)
def Fq54 : List AV → (AV → Ans) → Ans := fun l K => bindO (decAq54 l) fun a => vFq54 a K
theorem Fq54_ok : PureOk Tryz.prog 124 Fq54 := pure_mkD (hint := noHint) (d := 0) (n := 70) mixed tabOk envq54Ok Tryz.func124 (bodySome (by kernel_rfl)) (by decide +kernel) annq54_ok decAq54_ok fnq54_ok fnq54_nat rendq54_ok
--@ ref07_Set_Bytes
noncomputable def envq59 : Env := []
theorem envq59Ok : EnvOk Tryz.prog envq59 := EnvOk.nil
noncomputable def bq59 : Code := Tryz.f59.body.getD .skip
noncomputable def Lq59_n1 : Code := codeAt [1,1,0,1,0,0,1,0] bq59
noncomputable def annLq59_n1 : Ann := .none
theorem annLq59_n1_ok : AnnOk Tryz.prog 44 Lq59_n1 annLq59_n1 := (annOk_none _ _ _)
abbrev Iq59_n1 := (Int) × (List Bool) × (List Int)
abbrev Yq59_n1 := (List Int)
def Sq59_n1 : Iq59_n1 → St := fun (t4,o1,o2) => { env := [(0,.ptr 0 0),(3,.own 2),(4,.int .i64 t4)],stk := [[(0,.ptr 0 0)]],H := [.cells [.own 1],.arr .bool o1,.arr (.int .u8) o2],blk := 241664 }
def decPq59_n1 (s : St) : Option {x : Iq59_n1 // s = Sq59_n1 x} := match s with
  | { env := [(0,.ptr 0 0),(3,.own 2),(4,.int .i64 t4)],stk := [[(0,.ptr 0 0)]],H := [.cells [.own 1],.arr .bool o1,.arr (.int .u8) o2],blk := 241664 } => some ⟨(t4,o1,o2),rfl⟩
  | _ => none
def decq59_n1 (s : St) : Option Iq59_n1 := pk (decPq59_n1 s)
theorem decq59_n1_ok (s : St) (x : Iq59_n1) (h : decq59_n1 s = some x) : s = Sq59_n1 x := pk_ok (o := decPq59_n1 s) h
def outq59_n1 : Iq59_n1 → (Ex → St → Ans) → Yq59_n1 → Ans := fun (t4,o1,o2) K => fun o2_y => K (Ex.norm) { env := [(0,.ptr 0 0),(3,.own 2),(4,.int .i64 t4)],stk := [[(0,.ptr 0 0)]],H := [.cells [.own 1],.arr .bool o1,.arr (.int .u8) o2_y],blk := 241665 }
def nodeq59_n1 {β : Type} : Iq59_n1 → (Yq59_n1 → Option β) → Option β := fun (t4,o1,o2) exit => (bif inR t4 (List.length o1) then (bindO (o1[Int.toNat t4]?) fun x => (bif x then (bif inR (IntKind.wrap .i64 (Int.tdiv t4 (8 : Int))) (List.length o2) then (bindO (o2[Int.toNat (IntKind.wrap .i64 (Int.tdiv t4 (8 : Int)))]?) fun x_2 => (bif decide (Int.tmod t4 (8 : Int) < (0 : Int)) then none else (bif inR (IntKind.wrap .i64 (Int.tdiv t4 (8 : Int))) (List.length o2) then (bindO (o2[Int.toNat (IntKind.wrap .i64 (Int.tdiv t4 (8 : Int)))]?) fun x_3 => (exit (List.set o2 (Int.toNat (IntKind.wrap .i64 (Int.tdiv t4 (8 : Int)))) (IntKind.wrap .u8 (↑(Int.toNat (x_2 % (256 : Int)) ||| Int.toNat (IntKind.wrap .u8 ((1 : Int) * (2 : Int) ^ min (Int.toNat (Int.tmod t4 (8 : Int))) (8 : Nat)) % (256 : Int))) : Int))))) else none))) else none) else (exit (o2)))) else none)
def nodeDq59_n1 (i : Iq59_n1) : Option Yq59_n1 := nodeq59_n1 i some
theorem nodeq59_n1_nat (i : Iq59_n1) (k : Yq59_n1 → Ans) : nodeq59_n1 i k = bindO (nodeDq59_n1 i) k := by
  obtain ⟨t4,o1,o2⟩ := i
  simp only [nodeDq59_n1,nodeq59_n1,bindO_cond,bindO_assoc,bindO_none,bindO_pure,bindO_elim,bindO_unP,bindO_empty]
theorem nodeq59_n1_ok (i : Iq59_n1) (K : Ex → St → Ans) : codeI Tryz.tab envq59 noHint (codeD Tryz.tab envq59 noHint 0 64) 70 44 annLq59_n1 Lq59_n1 (weakP 2 (exk [0,3,4] [2] []) K) (Sq59_n1 i) = nodeq59_n1 i (outq59_n1 i K) := by kernel_rfl
theorem GNq59_n1_ok : CSum Tryz.prog 44 Lq59_n1 (sumN decq59_n1 nodeDq59_n1 outq59_n1) := csum_node mixed tabOk envq59Ok 2 (exk [0,3,4] [2] []) annLq59_n1_ok decq59_n1_ok nodeq59_n1_ok nodeq59_n1_nat
noncomputable def Gq59_n1 : (Ex → St → Ans) → St → Ans := (sumN decq59_n1 nodeDq59_n1 outq59_n1)
theorem Gq59_n1_ok : CSum Tryz.prog 44 Lq59_n1 Gq59_n1 := GNq59_n1_ok
noncomputable def Lq59_n0 : Code := codeAt [1,1,0,1,0,0] bq59
noncomputable def annLq59_n0 : Ann := .at 2 [0,3,4] (.loop (.seq .none (.seq (.cut 2 [0,3,4] Gq59_n1) .none)))
theorem annLq59_n0_ok : AnnOk Tryz.prog 44 (.loop Lq59_n0) annLq59_n0 := annOk_at ⟨(annOk_none _ _ _),⟨Gq59_n1_ok,(annOk_none _ _ _)⟩⟩
abbrev Iq59_n0 := (List Bool)
abbrev Yq59_n0 := (List Int)
abbrev Vq59_n0 := (Int) × (List Int)
def Sq59_n0 : Iq59_n0 → Vq59_n0 → St := fun o1 (t4,o2) => { env := [(0,.ptr 0 0),(3,.own 2),(4,.int .i64 t4)],stk := [[(0,.ptr 0 0)]],H := [.cells [.own 1],.arr .bool o1,.arr (.int .u8) o2],blk := 241664 }
def decPq59_n0 (s : St) : Option {x : Iq59_n0 × Vq59_n0 // s = Sq59_n0 x.1 x.2} := match s with
  | { env := [(0,.ptr 0 0),(3,.own 2),(4,.int .i64 t4)],stk := [[(0,.ptr 0 0)]],H := [.cells [.own 1],.arr .bool o1,.arr (.int .u8) o2],blk := 241664 } => some ⟨(o1,(t4,o2)),rfl⟩
  | _ => none
def decq59_n0 (s : St) : Option (Iq59_n0 × Vq59_n0) := pk (decPq59_n0 s)
theorem decq59_n0_ok (s : St) (x : Iq59_n0 × Vq59_n0) (h : decq59_n0 s = some x) : s = Sq59_n0 x.1 x.2 := pk_ok (o := decPq59_n0 s) h
def outq59_n0 : Iq59_n0 → (Ex → St → Ans) → Yq59_n0 → Ans := fun o1 K => fun o2_y => K (Ex.exit 0) { env := [(3,.own 2)],stk := [[(0,.ptr 0 0)]],H := [.cells [.own 1],.arr .bool o1,.arr (.int .u8) o2_y],blk := 241664 }
def stepq59_n0 {β : Type} : Iq59_n0 → Vq59_n0 → (Vq59_n0 → Option β) → (Yq59_n0 → Option β) → Option β := fun o1 (t4,o2) next exit => (bif decide (t4 < (↑(List.length o1) : Int)) then (bindO (nodeDq59_n1 (t4,o1,o2)) fun o2_2 => (next (IntKind.wrap .i64 (t4 + (1 : Int)),o2_2))) else (exit (o2)))
def stepDq59_n0 (i : Iq59_n0) (v : Vq59_n0) : Option (Vq59_n0 ⊕ Yq59_n0) := stepq59_n0 i v (fun v => some (.inl v)) (fun y => some (.inr y))
theorem stepq59_n0_nat (i : Iq59_n0) (v : Vq59_n0) (next : Vq59_n0 → Ans) (exit : Yq59_n0 → Ans) : stepq59_n0 i v next exit = bindO (stepDq59_n0 i v) (Sum.elim next exit) := by
  obtain z := i
  obtain ⟨t4,o2⟩ := v
  simp only [stepDq59_n0,stepq59_n0,bindO_cond,bindO_assoc,bindO_none,bindO_pure,bindO_elim,bindO_unP,bindO_empty,Sum.elim_inl,Sum.elim_inr]
theorem stepq59_n0_ok (n : Nat) (i : Iq59_n0) (v : Vq59_n0) (K : Ex → St → Ans) : codeI Tryz.tab envq59 noHint (codeD Tryz.tab envq59 noHint 0 64) (n+1) 44 annLq59_n0 (.loop Lq59_n0) (weakP 2 (exk [3] [2] [(0,[3])]) K) (Sq59_n0 i v) = stepq59_n0 i v (fun v' => codeI Tryz.tab envq59 noHint (codeD Tryz.tab envq59 noHint 0 64) n 44 annLq59_n0 (.loop Lq59_n0) (weakP 2 (exk [3] [2] [(0,[3])]) K) (Sq59_n0 i v')) (fun y => outq59_n0 i K y) := by kernel_rfl
theorem GNq59_n0_ok : CSum Tryz.prog 44 (.loop Lq59_n0) (sumL decq59_n0 stepDq59_n0 outq59_n0) := csum_loop mixed tabOk envq59Ok 2 (exk [3] [2] [(0,[3])]) annLq59_n0_ok decq59_n0_ok stepq59_n0_ok stepq59_n0_nat
noncomputable def Gq59_n0 : (Ex → St → Ans) → St → Ans := (sumL decq59_n0 stepDq59_n0 outq59_n0)
theorem Gq59_n0_ok : CSum Tryz.prog 44 (.loop Lq59_n0) Gq59_n0 := GNq59_n0_ok
noncomputable def annq59 : Ann := (.seq .none (.seq .none (.seq (.seq .none (.block (.cut 2 [0,3,4] Gq59_n0))) .none)))
theorem annq59_ok : AnnOk Tryz.prog 44 bq59 annq59 := ⟨(annOk_none _ _ _),⟨(annOk_none _ _ _),⟨⟨(annOk_none _ _ _),Gq59_n0_ok⟩,(annOk_none _ _ _)⟩⟩⟩
abbrev Aq59 := (List Bool)
abbrev Yq59 := (List UInt8)
def fnq59 {β : Type} : Aq59 → (Yq59 → Option β) → Option β := fun o1 exit => (bif decide ((0 : Int) ≤ IntKind.wrap .i64 (Int.tdiv (IntKind.wrap .i64 ((↑(List.length o1) : Int) + (7 : Int))) (8 : Int))) && decide (IntKind.wrap .i64 (Int.tdiv (IntKind.wrap .i64 ((↑(List.length o1) : Int) + (7 : Int))) (8 : Int)) ≤ IntKind.wrap .i64 (Int.tdiv (IntKind.wrap .i64 ((↑(List.length o1) : Int) + (7 : Int))) (8 : Int))) && decide ((1 : Int) * IntKind.wrap .i64 (Int.tdiv (IntKind.wrap .i64 ((↑(List.length o1) : Int) + (7 : Int))) (8 : Int)) ≤ (281474976710656 : Int)) && decide (IntKind.wrap .i64 (Int.tdiv (IntKind.wrap .i64 ((↑(List.length o1) : Int) + (7 : Int))) (8 : Int)) ≤ (9223372036854775807 : Int)) then (bindO (loopD (stepDq59_n0 (o1)) FUEL ((0 : Int),List.replicate (Int.toNat (IntKind.wrap .i64 (Int.tdiv (IntKind.wrap .i64 ((↑(List.length o1) : Int) + (7 : Int))) (8 : Int)))) (0 : Int))) fun o2 => (exit (bytesOf o2))) else none)
def fnDq59 (a : Aq59) : Option Yq59 := fnq59 a some
theorem fnq59_nat (a : Aq59) (k : Yq59 → Ans) : fnq59 a k = bindO (fnDq59 a) k := by
  obtain z := a
  simp only [fnDq59,fnq59,bindO_cond,bindO_assoc,bindO_none,bindO_pure,bindO_elim,bindO_unP,bindO_empty]
def argsq59 : Aq59 → List AV × List AE.Obj := fun o1 => ([.ptr 0 0],[.cells [.own 1],.arr .bool o1])
def decPAq59 (l : List AV) (H : List AE.Obj) : Option {a : Aq59 // (l,H) = argsq59 a} := match l,H with
  | [.ptr 0 0],[.cells [.own 1],.arr .bool o1] => some ⟨(o1),rfl⟩
  | _,_ => none
def decAq59 (l : List AV) (H : List AE.Obj) : Option Aq59 := pk (decPAq59 l H)
theorem decAq59_ok (l : List AV) (H : List AE.Obj) (a : Aq59) (h : decAq59 l H = some a) : (l,H) = argsq59 a := pk_ok (o := decPAq59 l H) h
def outq59 : Aq59 → (AV → List AE.Obj → Ans) → Yq59 → Ans := fun o1 K => fun r_y => K (.str r_y) [.cells [.own 1],.arr .bool o1]
theorem fnq59_ok (a : Aq59) (K : AV → List AE.Obj → Ans) : fnE Tryz.tab envq59 noHint 0 70 59 Tryz.f59.ntmps Tryz.f59.results.toList annq59 bq59 (argsq59 a).1 (argsq59 a).2 K = fnq59 a (outq59 a K) := by kernel_rfl
def vFq59 (a : Aq59) (K : AV → List AE.Obj → Ans) : Ans := bindO (fnDq59 a) fun y => outq59 a K y
def Fq59 : List AV → List AE.Obj → (AV → List AE.Obj → Ans) → Ans := fun l H K => bindO (decAq59 l H) fun a => vFq59 a K
theorem Fq59_ok : FuncOk Tryz.prog 59 Fq59 := func_mkD (hint := noHint) (d := 0) (n := 70) mixed tabOk envq59Ok Tryz.func59 (bodySome (by kernel_rfl)) (by decide +kernel) annq59_ok decAq59_ok fnq59_ok fnq59_nat
end Go.Proofs.R7J

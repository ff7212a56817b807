/- What the functions that SideNoneCardSaid reaches compute: part 5. -/
import Derived.Test.YtjgghofdajambaaGreatDoorOwnSideNoneCardSaid4
set_option linter.unusedVariables false
set_option linter.unusedSimpArgs false
namespace Go.Proofs.R7D
open Go Go.AE
open Go.Proofs.R7 (tabOk mixed Flaw22_works Flaw22_works_ok fnDlaw22_works Fstrings_Repeat_ok FBuilder_copyCheck_ok FBuilder_String_ok FBuilder_StringAgain_ok iter205_spec)
set_option maxRecDepth 100000
--@ side_Store_checked
noncomputable def envq76 : Env := []
theorem envq76Ok : EnvOk Tryz.prog envq76 := EnvOk.nil
noncomputable def bq76 : Code := Tryz.f145.body.getD .skip
noncomputable def annq76 : Ann := .none
theorem annq76_ok : AnnOk Tryz.prog 10 bq76 annq76 := (annOk_none _ _ _)
abbrev Aq76 := Unit
abbrev Yq76 := Unit
def fnq76 {β : Type} : Aq76 → (Yq76 → Option β) → Option β := fun _ exit => (exit ())
def fnDq76 (a : Aq76) : Option Yq76 := fnq76 a some
theorem fnq76_nat (a : Aq76) (k : Yq76 → Ans) : fnq76 a k = bindO (fnDq76 a) k := by
  obtain z := a
  simp only [fnDq76,fnq76,bindO_cond,bindO_assoc,bindO_none,bindO_pure,bindO_elim,bindO_unP,bindO_empty]
def argsq76 : Aq76 → List AV × List AE.Obj := fun _ => ([.nilp],[])
def decPAq76 (l : List AV) (H : List AE.Obj) : Option {a : Aq76 // (l,H) = argsq76 a} := match l,H with
  | [.nilp],[] => some ⟨(),rfl⟩
  | _,_ => none
def decAq76 (l : List AV) (H : List AE.Obj) : Option Aq76 := pk (decPAq76 l H)
theorem decAq76_ok (l : List AV) (H : List AE.Obj) (a : Aq76) (h : decAq76 l H = some a) : (l,H) = argsq76 a := pk_ok (o := decPAq76 l H) h
def outq76 : Aq76 → (AV → List AE.Obj → Ans) → Yq76 → Ans := fun _ K => fun _ => K (.int .i64 (10)) []
theorem fnq76_ok (a : Aq76) (K : AV → List AE.Obj → Ans) : fnE Tryz.tab envq76 noHint 0 70 145 Tryz.f145.ntmps Tryz.f145.results.toList annq76 bq76 (argsq76 a).1 (argsq76 a).2 K = fnq76 a (outq76 a K) := by kernel_rfl
def vFq76 (a : Aq76) (K : AV → List AE.Obj → Ans) : Ans := bindO (fnDq76 a) fun y => outq76 a K y
def Fq76 : List AV → List AE.Obj → (AV → List AE.Obj → Ans) → Ans := fun l H K => bindO (decAq76 l H) fun a => vFq76 a K
theorem Fq76_ok : FuncOk Tryz.prog 145 Fq76 := func_mkD (hint := noHint) (d := 0) (n := 70) mixed tabOk envq76Ok Tryz.func145 (bodySome (by kernel_rfl)) (by decide +kernel) annq76_ok decAq76_ok fnq76_ok fnq76_nat
--@ side_Store_Get
noncomputable def envq72 : Env := [(145,.func Fq76)]
theorem envq72Ok : EnvOk Tryz.prog envq72 := EnvOk.cons Fq76_ok (EnvOk.nil)
noncomputable def bq72 : Code := Tryz.f80.body.getD .skip
noncomputable def annq72 : Ann := .none
theorem annq72_ok : AnnOk Tryz.prog 67 bq72 annq72 := (annOk_none _ _ _)
abbrev Aq72 := (Int)
abbrev Yq72 := Unit
def fnq72 {β : Type} : Aq72 → (Yq72 → Option β) → Option β := fun a1 exit => (bindO (fnDq76 ()) fun _ => (exit ()))
def fnDq72 (a : Aq72) : Option Yq72 := fnq72 a some
theorem fnq72_nat (a : Aq72) (k : Yq72 → Ans) : fnq72 a k = bindO (fnDq72 a) k := by
  obtain z := a
  simp only [fnDq72,fnq72,bindO_cond,bindO_assoc,bindO_none,bindO_pure,bindO_elim,bindO_unP,bindO_empty]
def argsq72 : Aq72 → List AV × List AE.Obj := fun a1 => ([.nilp,.int .i64 a1],[])
def decPAq72 (l : List AV) (H : List AE.Obj) : Option {a : Aq72 // (l,H) = argsq72 a} := match l,H with
  | [.nilp,.int .i64 a1],[] => some ⟨(a1),rfl⟩
  | _,_ => none
def decAq72 (l : List AV) (H : List AE.Obj) : Option Aq72 := pk (decPAq72 l H)
theorem decAq72_ok (l : List AV) (H : List AE.Obj) (a : Aq72) (h : decAq72 l H = some a) : (l,H) = argsq72 a := pk_ok (o := decPAq72 l H) h
def outq72 : Aq72 → (AV → List AE.Obj → Ans) → Yq72 → Ans := fun a1 K => fun _ => K (.tup [.agg [.int .i64 (0),.int .i64 (0),.int .i64 (0),.str ([]),.int .i64 (0),.int .i64 (0),.str ([])],.bool (false),.int .i64 (10)]) []
theorem fnq72_ok (a : Aq72) (K : AV → List AE.Obj → Ans) : fnE Tryz.tab envq72 noHint 0 70 80 Tryz.f80.ntmps Tryz.f80.results.toList annq72 bq72 (argsq72 a).1 (argsq72 a).2 K = fnq72 a (outq72 a K) := by kernel_rfl
def vFq72 (a : Aq72) (K : AV → List AE.Obj → Ans) : Ans := bindO (fnDq72 a) fun y => outq72 a K y
def Fq72 : List AV → List AE.Obj → (AV → List AE.Obj → Ans) → Ans := fun l H K => bindO (decAq72 l H) fun a => vFq72 a K
theorem Fq72_ok : FuncOk Tryz.prog 80 Fq72 := func_mkD (hint := noHint) (d := 0) (n := 70) mixed tabOk envq72Ok Tryz.func80 (bodySome (by kernel_rfl)) (by decide +kernel) annq72_ok decAq72_ok fnq72_ok fnq72_nat
--@ side_Store_all
noncomputable def envq75 : Env := [(145,.func Fq76)]
theorem envq75Ok : EnvOk Tryz.prog envq75 := EnvOk.cons Fq76_ok (EnvOk.nil)
noncomputable def bq75 : Code := Tryz.f148.body.getD .skip
noncomputable def annq75 : Ann := .none
theorem annq75_ok : AnnOk Tryz.prog 51 bq75 annq75 := (annOk_none _ _ _)
abbrev Aq75 := Unit
abbrev Yq75 := Unit
def fnq75 {β : Type} : Aq75 → (Yq75 → Option β) → Option β := fun _ exit => (bindO (fnDq76 ()) fun _ => (exit ()))
def fnDq75 (a : Aq75) : Option Yq75 := fnq75 a some
theorem fnq75_nat (a : Aq75) (k : Yq75 → Ans) : fnq75 a k = bindO (fnDq75 a) k := by
  obtain z := a
  simp only [fnDq75,fnq75,bindO_cond,bindO_assoc,bindO_none,bindO_pure,bindO_elim,bindO_unP,bindO_empty]
def argsq75 : Aq75 → List AV × List AE.Obj := fun _ => ([.nilp],[])
def decPAq75 (l : List AV) (H : List AE.Obj) : Option {a : Aq75 // (l,H) = argsq75 a} := match l,H with
  | [.nilp],[] => some ⟨(),rfl⟩
  | _,_ => none
def decAq75 (l : List AV) (H : List AE.Obj) : Option Aq75 := pk (decPAq75 l H)
theorem decAq75_ok (l : List AV) (H : List AE.Obj) (a : Aq75) (h : decAq75 l H = some a) : (l,H) = argsq75 a := pk_ok (o := decPAq75 l H) h
def outq75 : Aq75 → (AV → List AE.Obj → Ans) → Yq75 → Ans := fun _ K => fun _ => K (.tup [.own 0,.int .i64 (10)]) [.arr (.st (.pair (.int .i64) (.pair (.int .i64) (.pair (.pair (.pair (.int .i64) (.int .i64)) .str) (.pair (.pair (.int .i64) (.int .i64)) .str))))) ([])]
theorem fnq75_ok (a : Aq75) (K : AV → List AE.Obj → Ans) : fnE Tryz.tab envq75 noHint 0 70 148 Tryz.f148.ntmps Tryz.f148.results.toList annq75 bq75 (argsq75 a).1 (argsq75 a).2 K = fnq75 a (outq75 a K) := by kernel_rfl
def vFq75 (a : Aq75) (K : AV → List AE.Obj → Ans) : Ans := bindO (fnDq75 a) fun y => outq75 a K y
def Fq75 : List AV → List AE.Obj → (AV → List AE.Obj → Ans) → Ans := fun l H K => bindO (decAq75 l H) fun a => vFq75 a K
theorem Fq75_ok : FuncOk Tryz.prog 148 Fq75 := func_mkD (hint := noHint) (d := 0) (n := 70) mixed tabOk envq75Ok Tryz.func148 (bodySome (by kernel_rfl)) (by decide +kernel) annq75_ok decAq75_ok fnq75_ok fnq75_nat
--@ side_of
noncomputable def envq77 : Env := []
theorem envq77Ok : EnvOk Tryz.prog envq77 := EnvOk.nil
noncomputable def bq77 : Code := Tryz.f150.body.getD .skip
noncomputable def annq77 : Ann := .none
theorem annq77_ok : AnnOk Tryz.prog 4 bq77 annq77 := (annOk_none _ _ _)
abbrev Aq77 := (Int)
abbrev Yq77 := Unit
def fnq77 {β : Type} : Aq77 → (Yq77 → Option β) → Option β := fun a0 exit => (exit ())
def fnDq77 (a : Aq77) : Option Yq77 := fnq77 a some
theorem fnq77_nat (a : Aq77) (k : Yq77 → Ans) : fnq77 a k = bindO (fnDq77 a) k := by
  obtain z := a
  simp only [fnDq77,fnq77,bindO_cond,bindO_assoc,bindO_none,bindO_pure,bindO_elim,bindO_unP,bindO_empty]
def argsq77 : Aq77 → List AV × List AE.Obj := fun a0 => ([.int .i64 a0],[])
def decPAq77 (l : List AV) (H : List AE.Obj) : Option {a : Aq77 // (l,H) = argsq77 a} := match l,H with
  | [.int .i64 a0],[] => some ⟨(a0),rfl⟩
  | _,_ => none
def decAq77 (l : List AV) (H : List AE.Obj) : Option Aq77 := pk (decPAq77 l H)
theorem decAq77_ok (l : List AV) (H : List AE.Obj) (a : Aq77) (h : decAq77 l H = some a) : (l,H) = argsq77 a := pk_ok (o := decPAq77 l H) h
def outq77 : Aq77 → (AV → List AE.Obj → Ans) → Yq77 → Ans := fun a0 K => fun _ => K (.fn (Fn.func 198) [] [.ptr 0 0]) [.cells [.int .i64 a0]]
theorem fnq77_ok (a : Aq77) (K : AV → List AE.Obj → Ans) : fnE Tryz.tab envq77 noHint 0 70 150 Tryz.f150.ntmps Tryz.f150.results.toList annq77 bq77 (argsq77 a).1 (argsq77 a).2 K = fnq77 a (outq77 a K) := by kernel_rfl
def vFq77 (a : Aq77) (K : AV → List AE.Obj → Ans) : Ans := bindO (fnDq77 a) fun y => outq77 a K y
def Fq77 : List AV → List AE.Obj → (AV → List AE.Obj → Ans) → Ans := fun l H K => bindO (decAq77 l H) fun a => vFq77 a K
theorem Fq77_ok : FuncOk Tryz.prog 150 Fq77 := func_mkD (hint := noHint) (d := 0) (n := 70) mixed tabOk envq77Ok Tryz.func150 (bodySome (by kernel_rfl)) (by decide +kernel) annq77_ok decAq77_ok fnq77_ok fnq77_nat
--@ side_of_1
noncomputable def envq78 : Env := []
theorem envq78Ok : EnvOk Tryz.prog envq78 := EnvOk.nil
noncomputable def bq78 : Code := Tryz.f198.body.getD .skip
noncomputable def annq78 : Ann := .none
theorem annq78_ok : AnnOk Tryz.prog 9 bq78 annq78 := (annOk_none _ _ _)
abbrev Aq78 := (Int) × (Int) × (Int) × (Int) × (List UInt8) × (Int) × (Int) × (List UInt8) × (Int)
abbrev Yq78 := (Bool)
def fnq78 {β : Type} : Aq78 → (Yq78 → Option β) → Option β := fun (a0_0,a0_1,a0_2,a0_3,a0_4,a0_5,a0_6,a0_7,o0_0) exit => (exit (a0_1 == o0_0))
def fnDq78 (a : Aq78) : Option Yq78 := fnq78 a some
theorem fnq78_nat (a : Aq78) (k : Yq78 → Ans) : fnq78 a k = bindO (fnDq78 a) k := by
  obtain ⟨a0_0,a0_1,a0_2,a0_3,a0_4,a0_5,a0_6,a0_7,o0_0⟩ := a
  simp only [fnDq78,fnq78,bindO_cond,bindO_assoc,bindO_none,bindO_pure,bindO_elim,bindO_unP,bindO_empty]
def argsq78 : Aq78 → List AV × List AE.Obj := fun (a0_0,a0_1,a0_2,a0_3,a0_4,a0_5,a0_6,a0_7,o0_0) => ([.agg [.int .i64 a0_0,.int .i64 a0_1,.int .i64 a0_2,.int .i64 a0_3,.str a0_4,.int .i64 a0_5,.int .i64 a0_6,.str a0_7],.ptr 0 0],[.cells [.int .i64 o0_0]])
def decPAq78 (l : List AV) (H : List AE.Obj) : Option {a : Aq78 // (l,H) = argsq78 a} := match l,H with
  | [.agg [.int .i64 a0_0,.int .i64 a0_1,.int .i64 a0_2,.int .i64 a0_3,.str a0_4,.int .i64 a0_5,.int .i64 a0_6,.str a0_7],.ptr 0 0],[.cells [.int .i64 o0_0]] => some ⟨(a0_0,a0_1,a0_2,a0_3,a0_4,a0_5,a0_6,a0_7,o0_0),rfl⟩
  | _,_ => none
def decAq78 (l : List AV) (H : List AE.Obj) : Option Aq78 := pk (decPAq78 l H)
theorem decAq78_ok (l : List AV) (H : List AE.Obj) (a : Aq78) (h : decAq78 l H = some a) : (l,H) = argsq78 a := pk_ok (o := decPAq78 l H) h
def outq78 : Aq78 → (AV → List AE.Obj → Ans) → Yq78 → Ans := fun (a0_0,a0_1,a0_2,a0_3,a0_4,a0_5,a0_6,a0_7,o0_0) K => fun r_y => K (.bool r_y) [.cells [.int .i64 o0_0]]
theorem fnq78_ok (a : Aq78) (K : AV → List AE.Obj → Ans) : fnE Tryz.tab envq78 noHint 0 70 198 Tryz.f198.ntmps Tryz.f198.results.toList annq78 bq78 (argsq78 a).1 (argsq78 a).2 K = fnq78 a (outq78 a K) := by kernel_rfl
def vFq78 (a : Aq78) (K : AV → List AE.Obj → Ans) : Ans := bindO (fnDq78 a) fun y => outq78 a K y
def Fq78 : List AV → List AE.Obj → (AV → List AE.Obj → Ans) → Ans := fun l H K => bindO (decAq78 l H) fun a => vFq78 a K
theorem Fq78_ok : FuncOk Tryz.prog 198 Fq78 := func_mkD (hint := noHint) (d := 0) (n := 70) mixed tabOk envq78Ok Tryz.func198 (bodySome (by kernel_rfl)) (by decide +kernel) annq78_ok decAq78_ok fnq78_ok fnq78_nat
--@ slices_IndexFunc_side_kept_side_kept
noncomputable def envq82 : Env := [(198,.func Fq78)]
theorem envq82Ok : EnvOk Tryz.prog envq82 := EnvOk.cons Fq78_ok (EnvOk.nil)
noncomputable def bq82 : Code := Tryz.f149.body.getD .skip
noncomputable def Lq82_n0 : Code := codeAt [1,0,1,0,0] bq82
noncomputable def annLq82_n0 : Ann := .at 1 [0,1,7,8] (.loop .none)
theorem annLq82_n0_ok : AnnOk Tryz.prog 19 (.loop Lq82_n0) annLq82_n0 := annOk_at (annOk_none _ _ _)
abbrev Iq82_n0 := (List (Int × Int × ((Int × Int) × List UInt8) × (Int × Int) × List UInt8)) × (Int) × (Int)
abbrev Yq82_n0 := ((Int)) ⊕ (Unit)
abbrev Vq82_n0 := (Int)
def Sq82_n0 : Iq82_n0 → Vq82_n0 → St := fun (t0,t7,o0_0) t8 => { env := [(0,.ro (.st (.pair (.int .i64) (.pair (.int .i64) (.pair (.pair (.pair (.int .i64) (.int .i64)) .str) (.pair (.pair (.int .i64) (.int .i64)) .str))))) t0),(1,.fn (Fn.func 198) [] [.ptr 0 0]),(7,.int .i64 t7),(8,.int .i64 t8)],stk := [[(0,.ptr 0 0)]],H := [.cells [.int .i64 o0_0]],blk := 610304 }
def decPq82_n0 (s : St) : Option {x : Iq82_n0 × Vq82_n0 // s = Sq82_n0 x.1 x.2} := match s with
  | { env := [(0,.ro (.st (.pair (.int .i64) (.pair (.int .i64) (.pair (.pair (.pair (.int .i64) (.int .i64)) .str) (.pair (.pair (.int .i64) (.int .i64)) .str))))) t0),(1,.fn (Fn.func 198) [] [.ptr 0 0]),(7,.int .i64 t7),(8,.int .i64 t8)],stk := [[(0,.ptr 0 0)]],H := [.cells [.int .i64 o0_0]],blk := 610304 } => some ⟨((t0,t7,o0_0),t8),rfl⟩
  | _ => none
def decq82_n0 (s : St) : Option (Iq82_n0 × Vq82_n0) := pk (decPq82_n0 s)
theorem decq82_n0_ok (s : St) (x : Iq82_n0 × Vq82_n0) (h : decq82_n0 s = some x) : s = Sq82_n0 x.1 x.2 := pk_ok (o := decPq82_n0 s) h
def outq82_n0 : Iq82_n0 → (Ex → St → Ans) → Yq82_n0 → Ans := fun (t0,t7,o0_0) K => (Sum.elim (fun t4_y => K (Ex.ret) { env := [(4,.int .i64 t4_y)],stk := [[(0,.ptr 0 0)]],H := [.cells [.int .i64 o0_0]],blk := 610305 }) (fun _ => K (Ex.exit 0) { env := [],stk := [[(0,.ptr 0 0)]],H := [.cells [.int .i64 o0_0]],blk := 610304 }))
def stepq82_n0 {β : Type} : Iq82_n0 → Vq82_n0 → (Vq82_n0 → Option β) → (Yq82_n0 → Option β) → Option β := fun (t0,t7,o0_0) t8 next exit => (bif decide (t8 < t7) then (bindO (nth t0 t8) fun x => (bindO (fnDq78 (x.fst,x.snd.fst,x.snd.snd.fst.fst.fst,x.snd.snd.fst.fst.snd,x.snd.snd.fst.snd,x.snd.snd.snd.fst.fst,x.snd.snd.snd.fst.snd,x.snd.snd.snd.snd,o0_0)) fun r => (bif r then (exit (Sum.inl (t8))) else (next (IntKind.wrap .i64 (t8 + (1 : Int))))))) else (exit (Sum.inr ())))
def stepDq82_n0 (i : Iq82_n0) (v : Vq82_n0) : Option (Vq82_n0 ⊕ Yq82_n0) := stepq82_n0 i v (fun v => some (.inl v)) (fun y => some (.inr y))
theorem stepq82_n0_nat (i : Iq82_n0) (v : Vq82_n0) (next : Vq82_n0 → Ans) (exit : Yq82_n0 → Ans) : stepq82_n0 i v next exit = bindO (stepDq82_n0 i v) (Sum.elim next exit) := by
  obtain ⟨t0,t7,o0_0⟩ := i
  obtain z := v
  simp only [stepDq82_n0,stepq82_n0,bindO_cond,bindO_assoc,bindO_none,bindO_pure,bindO_elim,bindO_unP,bindO_empty,Sum.elim_inl,Sum.elim_inr]
theorem stepq82_n0_ok (n : Nat) (i : Iq82_n0) (v : Vq82_n0) (K : Ex → St → Ans) : codeI Tryz.tab envq82 noHint (codeD Tryz.tab envq82 noHint 0 64) (n+1) 19 annLq82_n0 (.loop Lq82_n0) (weakP 1 (exk [] [4] [(0,[])]) K) (Sq82_n0 i v) = stepq82_n0 i v (fun v' => codeI Tryz.tab envq82 noHint (codeD Tryz.tab envq82 noHint 0 64) n 19 annLq82_n0 (.loop Lq82_n0) (weakP 1 (exk [] [4] [(0,[])]) K) (Sq82_n0 i v')) (fun y => outq82_n0 i K y) := by kernel_rfl
theorem GNq82_n0_ok : CSum Tryz.prog 19 (.loop Lq82_n0) (sumL decq82_n0 stepDq82_n0 outq82_n0) := csum_loop mixed tabOk envq82Ok 1 (exk [] [4] [(0,[])]) annLq82_n0_ok decq82_n0_ok stepq82_n0_ok stepq82_n0_nat
noncomputable def Gq82_n0 : (Ex → St → Ans) → St → Ans := (sumL decq82_n0 stepDq82_n0 outq82_n0)
theorem Gq82_n0_ok : CSum Tryz.prog 19 (.loop Lq82_n0) Gq82_n0 := GNq82_n0_ok
noncomputable def annq82 : Ann := (.seq .none (.seq (.seq .none (.block (.cut 1 [0,1,7,8] Gq82_n0))) .none))
theorem annq82_ok : AnnOk Tryz.prog 19 bq82 annq82 := ⟨(annOk_none _ _ _),⟨⟨(annOk_none _ _ _),Gq82_n0_ok⟩,(annOk_none _ _ _)⟩⟩
abbrev Aq82 := (List (Int × Int × ((Int × Int) × List UInt8) × (Int × Int) × List UInt8)) × (Int)
abbrev Yq82 := (Int)
def fnq82 {β : Type} : Aq82 → (Yq82 → Option β) → Option β := fun (a0,o0_0) exit => (bindO (loopD (stepDq82_n0 (a0,(↑(List.length a0) : Int),o0_0)) FUEL ((0 : Int))) (Sum.elim (fun t4 => (exit (t4))) (fun _ => (exit ((-1 : Int))))))
def fnDq82 (a : Aq82) : Option Yq82 := fnq82 a some
theorem fnq82_nat (a : Aq82) (k : Yq82 → Ans) : fnq82 a k = bindO (fnDq82 a) k := by
  obtain ⟨a0,o0_0⟩ := a
  simp only [fnDq82,fnq82,bindO_cond,bindO_assoc,bindO_none,bindO_pure,bindO_elim,bindO_unP,bindO_empty]
def argsq82 : Aq82 → List AV × List AE.Obj := fun (a0,o0_0) => ([.ro (.st (.pair (.int .i64) (.pair (.int .i64) (.pair (.pair (.pair (.int .i64) (.int .i64)) .str) (.pair (.pair (.int .i64) (.int .i64)) .str))))) a0,.fn (Fn.func 198) [] [.ptr 0 0]],[.cells [.int .i64 o0_0]])
def decPAq82 (l : List AV) (H : List AE.Obj) : Option {a : Aq82 // (l,H) = argsq82 a} := match l,H with
  | [.ro (.st (.pair (.int .i64) (.pair (.int .i64) (.pair (.pair (.pair (.int .i64) (.int .i64)) .str) (.pair (.pair (.int .i64) (.int .i64)) .str))))) a0,.fn (Fn.func 198) [] [.ptr 0 0]],[.cells [.int .i64 o0_0]] => some ⟨(a0,o0_0),rfl⟩
  | _,_ => none
def decAq82 (l : List AV) (H : List AE.Obj) : Option Aq82 := pk (decPAq82 l H)
theorem decAq82_ok (l : List AV) (H : List AE.Obj) (a : Aq82) (h : decAq82 l H = some a) : (l,H) = argsq82 a := pk_ok (o := decPAq82 l H) h
def outq82 : Aq82 → (AV → List AE.Obj → Ans) → Yq82 → Ans := fun (a0,o0_0) K => fun r_y => K (.int .i64 r_y) [.cells [.int .i64 o0_0]]
theorem fnq82_ok (a : Aq82) (K : AV → List AE.Obj → Ans) : fnE Tryz.tab envq82 noHint 0 70 149 Tryz.f149.ntmps Tryz.f149.results.toList annq82 bq82 (argsq82 a).1 (argsq82 a).2 K = fnq82 a (outq82 a K) := by kernel_rfl
def vFq82 (a : Aq82) (K : AV → List AE.Obj → Ans) : Ans := bindO (fnDq82 a) fun y => outq82 a K y
def Fq82 : List AV → List AE.Obj → (AV → List AE.Obj → Ans) → Ans := fun l H K => bindO (decAq82 l H) fun a => vFq82 a K
theorem Fq82_ok : FuncOk Tryz.prog 149 Fq82 := func_mkD (hint := noHint) (d := 0) (n := 70) mixed tabOk envq82Ok Tryz.func149 (bodySome (by kernel_rfl)) (by decide +kernel) annq82_ok decAq82_ok fnq82_ok fnq82_nat
--@ side_Store_Find
noncomputable def envq69 : Env := [(148,.func Fq75),(150,.func Fq77),(149,.func Fq82)]
theorem envq69Ok : EnvOk Tryz.prog envq69 := EnvOk.cons Fq75_ok (EnvOk.cons Fq77_ok (EnvOk.cons Fq82_ok (EnvOk.nil)))
noncomputable def bq69 : Code := Tryz.f81.body.getD .skip
noncomputable def Lq69_n0 : Code := codeAt [1,1,0,1,0] bq69
noncomputable def annLq69_n0 : Ann := .none
theorem annLq69_n0_ok : AnnOk Tryz.prog 37 Lq69_n0 annLq69_n0 := (annOk_none _ _ _)
abbrev Iq69_n0 := (Int)
abbrev Yq69_n0 := Unit
def Sq69_n0 : Iq69_n0 → St := fun t9 => { env := [(5,.ptr 0 0),(7,.ro (.st (.pair (.int .i64) (.pair (.int .i64) (.pair (.pair (.pair (.int .i64) (.int .i64)) .str) (.pair (.pair (.int .i64) (.int .i64)) .str))))) ([])),(8,.int .i64 (10)),(9,.int .i64 t9)],stk := [[]],H := [.cells [.int .i64 (0),.int .i64 (0),.int .i64 (0),.str ([]),.int .i64 (0),.int .i64 (0),.str ([])]],blk := 331776 }
def decPq69_n0 (s : St) : Option {x : Iq69_n0 // s = Sq69_n0 x} := match s with
  | { env := [(5,.ptr 0 0),(7,.ro (.st (.pair (.int .i64) (.pair (.int .i64) (.pair (.pair (.pair (.int .i64) (.int .i64)) .str) (.pair (.pair (.int .i64) (.int .i64)) .str))))) r0),(8,.int .i64 r1),(9,.int .i64 t9)],stk := [[]],H := [.cells [.int .i64 r3,.int .i64 r4,.int .i64 r5,.str r6,.int .i64 r7,.int .i64 r8,.str r9]],blk := 331776 } => if h0 : r0 = [] then if h1 : r1 = 10 then if h3 : r3 = 0 then if h4 : r4 = 0 then if h5 : r5 = 0 then if h6 : r6 = [] then if h7 : r7 = 0 then if h8 : r8 = 0 then if h9 : r9 = [] then some ⟨(t9),by subst h0 h1 h3 h4 h5 h6 h7 h8 h9; rfl⟩ else none else none else none else none else none else none else none else none else none
  | _ => none
def decq69_n0 (s : St) : Option Iq69_n0 := pk (decPq69_n0 s)
theorem decq69_n0_ok (s : St) (x : Iq69_n0) (h : decq69_n0 s = some x) : s = Sq69_n0 x := pk_ok (o := decPq69_n0 s) h
def outq69_n0 : Iq69_n0 → (Ex → St → Ans) → Yq69_n0 → Ans := fun t9 K => fun _ => K (Ex.norm) { env := [(5,.ptr 0 0),(7,.ro (.st (.pair (.int .i64) (.pair (.int .i64) (.pair (.pair (.pair (.int .i64) (.int .i64)) .str) (.pair (.pair (.int .i64) (.int .i64)) .str))))) ([])),(8,.int .i64 (10)),(9,.int .i64 t9),(24,.bool (false))],stk := [[]],H := [.cells [.int .i64 (0),.int .i64 (0),.int .i64 (0),.str ([]),.int .i64 (0),.int .i64 (0),.str ([])]],blk := 331776 }
def nodeq69_n0 {β : Type} : Iq69_n0 → (Yq69_n0 → Option β) → Option β := fun t9 exit => (bif decide (t9 ≥ (0 : Int)) then (exit ()) else (exit ()))
def nodeDq69_n0 (i : Iq69_n0) : Option Yq69_n0 := nodeq69_n0 i some
theorem nodeq69_n0_nat (i : Iq69_n0) (k : Yq69_n0 → Ans) : nodeq69_n0 i k = bindO (nodeDq69_n0 i) k := by
  obtain z := i
  simp only [nodeDq69_n0,nodeq69_n0,bindO_cond,bindO_assoc,bindO_none,bindO_pure,bindO_elim,bindO_unP,bindO_empty]
theorem nodeq69_n0_ok (i : Iq69_n0) (K : Ex → St → Ans) : codeI Tryz.tab envq69 noHint (codeD Tryz.tab envq69 noHint 0 64) 70 37 annLq69_n0 Lq69_n0 (weakP 0 (exk [5,7,8,9,24] [4,5,6] []) K) (Sq69_n0 i) = nodeq69_n0 i (outq69_n0 i K) := by kernel_rfl
theorem GNq69_n0_ok : CSum Tryz.prog 37 Lq69_n0 (sumN decq69_n0 nodeDq69_n0 outq69_n0) := csum_node mixed tabOk envq69Ok 0 (exk [5,7,8,9,24] [4,5,6] []) annLq69_n0_ok decq69_n0_ok nodeq69_n0_ok nodeq69_n0_nat
noncomputable def Gq69_n0 : (Ex → St → Ans) → St → Ans := (sumN decq69_n0 nodeDq69_n0 outq69_n0)
theorem Gq69_n0_ok : CSum Tryz.prog 37 Lq69_n0 Gq69_n0 := GNq69_n0_ok
noncomputable def annq69 : Ann := (.seq .none (.seq .none (.seq (.seq .none (.seq (.cut 0 [5,7,8,9] Gq69_n0) .none)) .none)))
theorem annq69_ok : AnnOk Tryz.prog 37 bq69 annq69 := ⟨(annOk_none _ _ _),⟨(annOk_none _ _ _),⟨⟨(annOk_none _ _ _),⟨Gq69_n0_ok,(annOk_none _ _ _)⟩⟩,(annOk_none _ _ _)⟩⟩⟩
abbrev Aq69 := (Int)
abbrev Yq69 := Unit
def fnq69 {β : Type} : Aq69 → (Yq69 → Option β) → Option β := fun a1 exit => (bindO (fnDq75 ()) fun _ => (bindO (fnDq77 (a1)) fun _ => (bindO (fnDq82 ([],a1)) fun r => (bindO (nodeDq69_n0 (r)) fun _ => (exit ())))))
def fnDq69 (a : Aq69) : Option Yq69 := fnq69 a some
theorem fnq69_nat (a : Aq69) (k : Yq69 → Ans) : fnq69 a k = bindO (fnDq69 a) k := by
  obtain z := a
  simp only [fnDq69,fnq69,bindO_cond,bindO_assoc,bindO_none,bindO_pure,bindO_elim,bindO_unP,bindO_empty]
def argsq69 : Aq69 → List AV × List AE.Obj := fun a1 => ([.nilp,.int .i64 a1],[])
def decPAq69 (l : List AV) (H : List AE.Obj) : Option {a : Aq69 // (l,H) = argsq69 a} := match l,H with
  | [.nilp,.int .i64 a1],[] => some ⟨(a1),rfl⟩
  | _,_ => none
def decAq69 (l : List AV) (H : List AE.Obj) : Option Aq69 := pk (decPAq69 l H)
theorem decAq69_ok (l : List AV) (H : List AE.Obj) (a : Aq69) (h : decAq69 l H = some a) : (l,H) = argsq69 a := pk_ok (o := decPAq69 l H) h
def outq69 : Aq69 → (AV → List AE.Obj → Ans) → Yq69 → Ans := fun a1 K => fun _ => K (.tup [.int .i64 (-1),.agg [.int .i64 (0),.int .i64 (0),.int .i64 (0),.str ([]),.int .i64 (0),.int .i64 (0),.str ([])],.int .i64 (10)]) []
theorem fnq69_ok (a : Aq69) (K : AV → List AE.Obj → Ans) : fnE Tryz.tab envq69 noHint 0 70 81 Tryz.f81.ntmps Tryz.f81.results.toList annq69 bq69 (argsq69 a).1 (argsq69 a).2 K = fnq69 a (outq69 a K) := by kernel_rfl
def vFq69 (a : Aq69) (K : AV → List AE.Obj → Ans) : Ans := bindO (fnDq69 a) fun y => outq69 a K y
def Fq69 : List AV → List AE.Obj → (AV → List AE.Obj → Ans) → Ans := fun l H K => bindO (decAq69 l H) fun a => vFq69 a K
theorem Fq69_ok : FuncOk Tryz.prog 81 Fq69 := func_mkD (hint := noHint) (d := 0) (n := 70) mixed tabOk envq69Ok Tryz.func81 (bodySome (by kernel_rfl)) (by decide +kernel) annq69_ok decAq69_ok fnq69_ok fnq69_nat
--@ side_Store_Free
noncomputable def envq71 : Env := [(148,.func Fq75)]
theorem envq71Ok : EnvOk Tryz.prog envq71 := EnvOk.cons Fq75_ok (EnvOk.nil)
noncomputable def bq71 : Code := Tryz.f82.body.getD .skip
noncomputable def annq71 : Ann := .none
theorem annq71_ok : AnnOk Tryz.prog 22 bq71 annq71 := (annOk_none _ _ _)
abbrev Aq71 := Unit
abbrev Yq71 := Unit
def fnq71 {β : Type} : Aq71 → (Yq71 → Option β) → Option β := fun _ exit => (bindO (fnDq75 ()) fun _ => (exit ()))
def fnDq71 (a : Aq71) : Option Yq71 := fnq71 a some
theorem fnq71_nat (a : Aq71) (k : Yq71 → Ans) : fnq71 a k = bindO (fnDq71 a) k := by
  obtain z := a
  simp only [fnDq71,fnq71,bindO_cond,bindO_assoc,bindO_none,bindO_pure,bindO_elim,bindO_unP,bindO_empty]
def argsq71 : Aq71 → List AV × List AE.Obj := fun _ => ([.nilp],[])
def decPAq71 (l : List AV) (H : List AE.Obj) : Option {a : Aq71 // (l,H) = argsq71 a} := match l,H with
  | [.nilp],[] => some ⟨(),rfl⟩
  | _,_ => none
def decAq71 (l : List AV) (H : List AE.Obj) : Option Aq71 := pk (decPAq71 l H)
theorem decAq71_ok (l : List AV) (H : List AE.Obj) (a : Aq71) (h : decAq71 l H = some a) : (l,H) = argsq71 a := pk_ok (o := decPAq71 l H) h
def outq71 : Aq71 → (AV → List AE.Obj → Ans) → Yq71 → Ans := fun _ K => fun _ => K (.tup [.int .i64 (0),.int .i64 (10)]) []
theorem fnq71_ok (a : Aq71) (K : AV → List AE.Obj → Ans) : fnE Tryz.tab envq71 noHint 0 70 82 Tryz.f82.ntmps Tryz.f82.results.toList annq71 bq71 (argsq71 a).1 (argsq71 a).2 K = fnq71 a (outq71 a K) := by kernel_rfl
def vFq71 (a : Aq71) (K : AV → List AE.Obj → Ans) : Ans := bindO (fnDq71 a) fun y => outq71 a K y
def Fq71 : List AV → List AE.Obj → (AV → List AE.Obj → Ans) → Ans := fun l H K => bindO (decAq71 l H) fun a => vFq71 a K
theorem Fq71_ok : FuncOk Tryz.prog 82 Fq71 := func_mkD (hint := noHint) (d := 0) (n := 70) mixed tabOk envq71Ok Tryz.func82 (bodySome (by kernel_rfl)) (by decide +kernel) annq71_ok decAq71_ok fnq71_ok fnq71_nat
--@ side_Store_Insert
noncomputable def envq73 : Env := [(145,.func Fq76)]
theorem envq73Ok : EnvOk Tryz.prog envq73 := EnvOk.cons Fq76_ok (EnvOk.nil)
noncomputable def bq73 : Code := Tryz.f83.body.getD .skip
noncomputable def annq73 : Ann := .none
theorem annq73_ok : AnnOk Tryz.prog 66 bq73 annq73 := (annOk_none _ _ _)
abbrev Aq73 := (Int) × (Int) × (Int) × (List UInt8) × (Int) × (Int) × (List UInt8)
abbrev Yq73 := Unit
def fnq73 {β : Type} : Aq73 → (Yq73 → Option β) → Option β := fun (a1_0,a1_1,a1_2,a1_3,a1_4,a1_5,a1_6) exit => (bindO (fnDq76 ()) fun _ => (exit ()))
def fnDq73 (a : Aq73) : Option Yq73 := fnq73 a some
theorem fnq73_nat (a : Aq73) (k : Yq73 → Ans) : fnq73 a k = bindO (fnDq73 a) k := by
  obtain ⟨a1_0,a1_1,a1_2,a1_3,a1_4,a1_5,a1_6⟩ := a
  simp only [fnDq73,fnq73,bindO_cond,bindO_assoc,bindO_none,bindO_pure,bindO_elim,bindO_unP,bindO_empty]
def argsq73 : Aq73 → List AV × List AE.Obj := fun (a1_0,a1_1,a1_2,a1_3,a1_4,a1_5,a1_6) => ([.nilp,.agg [.int .i64 a1_0,.int .i64 a1_1,.int .i64 a1_2,.str a1_3,.int .i64 a1_4,.int .i64 a1_5,.str a1_6]],[])
def decPAq73 (l : List AV) (H : List AE.Obj) : Option {a : Aq73 // (l,H) = argsq73 a} := match l,H with
  | [.nilp,.agg [.int .i64 a1_0,.int .i64 a1_1,.int .i64 a1_2,.str a1_3,.int .i64 a1_4,.int .i64 a1_5,.str a1_6]],[] => some ⟨(a1_0,a1_1,a1_2,a1_3,a1_4,a1_5,a1_6),rfl⟩
  | _,_ => none
def decAq73 (l : List AV) (H : List AE.Obj) : Option Aq73 := pk (decPAq73 l H)
theorem decAq73_ok (l : List AV) (H : List AE.Obj) (a : Aq73) (h : decAq73 l H = some a) : (l,H) = argsq73 a := pk_ok (o := decPAq73 l H) h
def outq73 : Aq73 → (AV → List AE.Obj → Ans) → Yq73 → Ans := fun (a1_0,a1_1,a1_2,a1_3,a1_4,a1_5,a1_6) K => fun _ => K (.tup [.int .i64 (0),.int .i64 (10)]) []
theorem fnq73_ok (a : Aq73) (K : AV → List AE.Obj → Ans) : fnE Tryz.tab envq73 noHint 0 70 83 Tryz.f83.ntmps Tryz.f83.results.toList annq73 bq73 (argsq73 a).1 (argsq73 a).2 K = fnq73 a (outq73 a K) := by kernel_rfl
def vFq73 (a : Aq73) (K : AV → List AE.Obj → Ans) : Ans := bindO (fnDq73 a) fun y => outq73 a K y
def Fq73 : List AV → List AE.Obj → (AV → List AE.Obj → Ans) → Ans := fun l H K => bindO (decAq73 l H) fun a => vFq73 a K
theorem Fq73_ok : FuncOk Tryz.prog 83 Fq73 := func_mkD (hint := noHint) (d := 0) (n := 70) mixed tabOk envq73Ok Tryz.func83 (bodySome (by kernel_rfl)) (by decide +kernel) annq73_ok decAq73_ok fnq73_ok fnq73_nat
--@ side_Store_Release
noncomputable def envq74 : Env := [(81,.func Fq69)]
theorem envq74Ok : EnvOk Tryz.prog envq74 := EnvOk.cons Fq69_ok (EnvOk.nil)
noncomputable def bq74 : Code := Tryz.f84.body.getD .skip
noncomputable def Lq74_n0 : Code := codeAt [1,1,0,0] bq74
noncomputable def annLq74_n0 : Ann := .none
theorem annLq74_n0_ok : AnnOk Tryz.prog 30 Lq74_n0 annLq74_n0 := (annOk_none _ _ _)
abbrev Iq74_n0 := Unit
abbrev Yq74_n0 := Unit
def Sq74_n0 : Iq74_n0 → St := fun _ => { env := [(0,.nilp),(6,.int .i64 (-1)),(8,.int .i64 (10))],stk := [[]],H := [],blk := 344064 }
def decPq74_n0 (s : St) : Option {x : Iq74_n0 // s = Sq74_n0 x} := match s with
  | { env := [(0,.nilp),(6,.int .i64 r0),(8,.int .i64 r1)],stk := [[]],H := [],blk := 344064 } => if h0 : r0 = -1 then if h1 : r1 = 10 then some ⟨(),by subst h0 h1; rfl⟩ else none else none
  | _ => none
def decq74_n0 (s : St) : Option Iq74_n0 := pk (decPq74_n0 s)
theorem decq74_n0_ok (s : St) (x : Iq74_n0) (h : decq74_n0 s = some x) : s = Sq74_n0 x := pk_ok (o := decPq74_n0 s) h
def outq74_n0 : Iq74_n0 → (Ex → St → Ans) → Yq74_n0 → Ans := fun _ K => fun _ => K (Ex.norm) { env := [(0,.nilp),(6,.int .i64 (-1)),(8,.int .i64 (10)),(22,.bool (true))],stk := [[]],H := [],blk := 344064 }
def nodeq74_n0 {β : Type} : Iq74_n0 → (Yq74_n0 → Option β) → Option β := fun _ exit => (exit ())
def nodeDq74_n0 (i : Iq74_n0) : Option Yq74_n0 := nodeq74_n0 i some
theorem nodeq74_n0_nat (i : Iq74_n0) (k : Yq74_n0 → Ans) : nodeq74_n0 i k = bindO (nodeDq74_n0 i) k := by
  obtain z := i
  simp only [nodeDq74_n0,nodeq74_n0,bindO_cond,bindO_assoc,bindO_none,bindO_pure,bindO_elim,bindO_unP,bindO_empty]
theorem nodeq74_n0_ok (i : Iq74_n0) (K : Ex → St → Ans) : codeI Tryz.tab envq74 noHint (codeD Tryz.tab envq74 noHint 0 64) 70 30 annLq74_n0 Lq74_n0 (weakP 0 (exk [0,6,8,22] [4,5] []) K) (Sq74_n0 i) = nodeq74_n0 i (outq74_n0 i K) := by kernel_rfl
theorem GNq74_n0_ok : CSum Tryz.prog 30 Lq74_n0 (sumN decq74_n0 nodeDq74_n0 outq74_n0) := csum_node mixed tabOk envq74Ok 0 (exk [0,6,8,22] [4,5] []) annLq74_n0_ok decq74_n0_ok nodeq74_n0_ok nodeq74_n0_nat
noncomputable def Gq74_n0 : (Ex → St → Ans) → St → Ans := (sumN decq74_n0 nodeDq74_n0 outq74_n0)
theorem Gq74_n0_ok : CSum Tryz.prog 30 Lq74_n0 Gq74_n0 := GNq74_n0_ok
noncomputable def annq74 : Ann := (.seq .none (.seq .none (.seq (.seq (.cut 0 [0,6,8] Gq74_n0) .none) .none)))
theorem annq74_ok : AnnOk Tryz.prog 30 bq74 annq74 := ⟨(annOk_none _ _ _),⟨(annOk_none _ _ _),⟨⟨Gq74_n0_ok,(annOk_none _ _ _)⟩,(annOk_none _ _ _)⟩⟩⟩
abbrev Aq74 := (Int)
abbrev Yq74 := Unit
def fnq74 {β : Type} : Aq74 → (Yq74 → Option β) → Option β := fun a1 exit => (bindO (fnDq69 (a1)) fun _ => (bindO (nodeDq74_n0 ()) fun _ => (exit ())))
def fnDq74 (a : Aq74) : Option Yq74 := fnq74 a some
theorem fnq74_nat (a : Aq74) (k : Yq74 → Ans) : fnq74 a k = bindO (fnDq74 a) k := by
  obtain z := a
  simp only [fnDq74,fnq74,bindO_cond,bindO_assoc,bindO_none,bindO_pure,bindO_elim,bindO_unP,bindO_empty]
def argsq74 : Aq74 → List AV × List AE.Obj := fun a1 => ([.nilp,.int .i64 a1],[])
def decPAq74 (l : List AV) (H : List AE.Obj) : Option {a : Aq74 // (l,H) = argsq74 a} := match l,H with
  | [.nilp,.int .i64 a1],[] => some ⟨(a1),rfl⟩
  | _,_ => none
def decAq74 (l : List AV) (H : List AE.Obj) : Option Aq74 := pk (decPAq74 l H)
theorem decAq74_ok (l : List AV) (H : List AE.Obj) (a : Aq74) (h : decAq74 l H = some a) : (l,H) = argsq74 a := pk_ok (o := decPAq74 l H) h
def outq74 : Aq74 → (AV → List AE.Obj → Ans) → Yq74 → Ans := fun a1 K => fun _ => K (.tup [.bool (false),.int .i64 (10)]) []
theorem fnq74_ok (a : Aq74) (K : AV → List AE.Obj → Ans) : fnE Tryz.tab envq74 noHint 0 70 84 Tryz.f84.ntmps Tryz.f84.results.toList annq74 bq74 (argsq74 a).1 (argsq74 a).2 K = fnq74 a (outq74 a K) := by kernel_rfl
def vFq74 (a : Aq74) (K : AV → List AE.Obj → Ans) : Ans := bindO (fnDq74 a) fun y => outq74 a K y
def Fq74 : List AV → List AE.Obj → (AV → List AE.Obj → Ans) → Ans := fun l H K => bindO (decAq74 l H) fun a => vFq74 a K
theorem Fq74_ok : FuncOk Tryz.prog 84 Fq74 := func_mkD (hint := noHint) (d := 0) (n := 70) mixed tabOk envq74Ok Tryz.func84 (bodySome (by kernel_rfl)) (by decide +kernel) annq74_ok decAq74_ok fnq74_ok fnq74_nat
--@ side_Store_All
noncomputable def envq68 : Env := [(148,.func Fq75)]
theorem envq68Ok : EnvOk Tryz.prog envq68 := EnvOk.cons Fq75_ok (EnvOk.nil)
noncomputable def bq68 : Code := Tryz.f85.body.getD .skip
noncomputable def annq68 : Ann := .none
theorem annq68_ok : AnnOk Tryz.prog 30 bq68 annq68 := (annOk_none _ _ _)
abbrev Aq68 := Unit
abbrev Yq68 := Unit
def fnq68 {β : Type} : Aq68 → (Yq68 → Option β) → Option β := fun _ exit => (bindO (fnDq75 ()) fun _ => (exit ()))
def fnDq68 (a : Aq68) : Option Yq68 := fnq68 a some
theorem fnq68_nat (a : Aq68) (k : Yq68 → Ans) : fnq68 a k = bindO (fnDq68 a) k := by
  obtain z := a
  simp only [fnDq68,fnq68,bindO_cond,bindO_assoc,bindO_none,bindO_pure,bindO_elim,bindO_unP,bindO_empty]
def argsq68 : Aq68 → List AV × List AE.Obj := fun _ => ([.nilp],[])
def decPAq68 (l : List AV) (H : List AE.Obj) : Option {a : Aq68 // (l,H) = argsq68 a} := match l,H with
  | [.nilp],[] => some ⟨(),rfl⟩
  | _,_ => none
def decAq68 (l : List AV) (H : List AE.Obj) : Option Aq68 := pk (decPAq68 l H)
theorem decAq68_ok (l : List AV) (H : List AE.Obj) (a : Aq68) (h : decAq68 l H = some a) : (l,H) = argsq68 a := pk_ok (o := decPAq68 l H) h
def outq68 : Aq68 → (AV → List AE.Obj → Ans) → Yq68 → Ans := fun _ K => fun _ => K (.tup [.own 0,.int .i64 (10)]) [.arr (.st (.pair (.int .i64) (.pair (.pair (.pair (.int .i64) (.int .i64)) .str) (.pair (.pair (.int .i64) (.int .i64)) .str)))) ([])]
theorem fnq68_ok (a : Aq68) (K : AV → List AE.Obj → Ans) : fnE Tryz.tab envq68 noHint 0 70 85 Tryz.f85.ntmps Tryz.f85.results.toList annq68 bq68 (argsq68 a).1 (argsq68 a).2 K = fnq68 a (outq68 a K) := by kernel_rfl
def vFq68 (a : Aq68) (K : AV → List AE.Obj → Ans) : Ans := bindO (fnDq68 a) fun y => outq68 a K y
def Fq68 : List AV → List AE.Obj → (AV → List AE.Obj → Ans) → Ans := fun l H K => bindO (decAq68 l H) fun a => vFq68 a K
theorem Fq68_ok : FuncOk Tryz.prog 85 Fq68 := func_mkD (hint := noHint) (d := 0) (n := 70) mixed tabOk envq68Ok Tryz.func85 (bodySome (by kernel_rfl)) (by decide +kernel) annq68_ok decAq68_ok fnq68_ok fnq68_nat
--@ side_Store_Format
noncomputable def envq70 : Env := [(145,.func Fq76)]
theorem envq70Ok : EnvOk Tryz.prog envq70 := EnvOk.cons Fq76_ok (EnvOk.nil)
noncomputable def bq70 : Code := Tryz.f86.body.getD .skip
noncomputable def annq70 : Ann := .none
theorem annq70_ok : AnnOk Tryz.prog 26 bq70 annq70 := (annOk_none _ _ _)
abbrev Aq70 := Unit
abbrev Yq70 := Unit
def fnq70 {β : Type} : Aq70 → (Yq70 → Option β) → Option β := fun _ exit => (bindO (fnDq76 ()) fun _ => (exit ()))
def fnDq70 (a : Aq70) : Option Yq70 := fnq70 a some
theorem fnq70_nat (a : Aq70) (k : Yq70 → Ans) : fnq70 a k = bindO (fnDq70 a) k := by
  obtain z := a
  simp only [fnDq70,fnq70,bindO_cond,bindO_assoc,bindO_none,bindO_pure,bindO_elim,bindO_unP,bindO_empty]
def argsq70 : Aq70 → List AV × List AE.Obj := fun _ => ([.nilp],[])
def decPAq70 (l : List AV) (H : List AE.Obj) : Option {a : Aq70 // (l,H) = argsq70 a} := match l,H with
  | [.nilp],[] => some ⟨(),rfl⟩
  | _,_ => none
def decAq70 (l : List AV) (H : List AE.Obj) : Option Aq70 := pk (decPAq70 l H)
theorem decAq70_ok (l : List AV) (H : List AE.Obj) (a : Aq70) (h : decAq70 l H = some a) : (l,H) = argsq70 a := pk_ok (o := decPAq70 l H) h
def outq70 : Aq70 → (AV → List AE.Obj → Ans) → Yq70 → Ans := fun _ K => fun _ => K (.int .i64 (10)) []
theorem fnq70_ok (a : Aq70) (K : AV → List AE.Obj → Ans) : fnE Tryz.tab envq70 noHint 0 70 86 Tryz.f86.ntmps Tryz.f86.results.toList annq70 bq70 (argsq70 a).1 (argsq70 a).2 K = fnq70 a (outq70 a K) := by kernel_rfl
def vFq70 (a : Aq70) (K : AV → List AE.Obj → Ans) : Ans := bindO (fnDq70 a) fun y => outq70 a K y
def Fq70 : List AV → List AE.Obj → (AV → List AE.Obj → Ans) → Ans := fun l H K => bindO (decAq70 l H) fun a => vFq70 a K
theorem Fq70_ok : FuncOk Tryz.prog 86 Fq70 := func_mkD (hint := noHint) (d := 0) (n := 70) mixed tabOk envq70Ok Tryz.func86 (bodySome (by kernel_rfl)) (by decide +kernel) annq70_ok decAq70_ok fnq70_ok fnq70_nat
--@ law22_SideNone
noncomputable def envq21 : Env := [(79,.pure Flaw22_works),(80,.func Fq72),(81,.func Fq69),(82,.func Fq71),(83,.func Fq73),(84,.func Fq74),(85,.func Fq68),(86,.func Fq70)]
theorem envq21Ok : EnvOk Tryz.prog envq21 := EnvOk.cons Flaw22_works_ok (EnvOk.cons Fq72_ok (EnvOk.cons Fq69_ok (EnvOk.cons Fq71_ok (EnvOk.cons Fq73_ok (EnvOk.cons Fq74_ok (EnvOk.cons Fq68_ok (EnvOk.cons Fq70_ok (EnvOk.nil))))))))
noncomputable def bq21 : Code := Tryz.f13.body.getD .skip
noncomputable def Lq21_n0 : Code := codeAt [1,1,1,1,1,1,1,1,1,1,0] bq21
noncomputable def annLq21_n0 : Ann := .none
theorem annLq21_n0_ok : AnnOk Tryz.prog 99 Lq21_n0 annLq21_n0 := (annOk_none _ _ _)
abbrev Iq21_n0 := Unit
abbrev Yq21_n0 := Unit
def Sq21_n0 : Iq21_n0 → St := fun _ => { env := [(5,.nilp),(8,.int .i64 (10)),(9,.int .i64 (-1)),(11,.int .i64 (10)),(13,.int .i64 (10)),(15,.int .i64 (10)),(17,.int .i64 (10)),(19,.int .i64 (10))],stk := [[]],H := [],blk := 53248 }
def decPq21_n0 (s : St) : Option {x : Iq21_n0 // s = Sq21_n0 x} := match s with
  | { env := [(5,.nilp),(8,.int .i64 r0),(9,.int .i64 r1),(11,.int .i64 r2),(13,.int .i64 r3),(15,.int .i64 r4),(17,.int .i64 r5),(19,.int .i64 r6)],stk := [[]],H := [],blk := 53248 } => if h0 : r0 = 10 then if h1 : r1 = -1 then if h2 : r2 = 10 then if h3 : r3 = 10 then if h4 : r4 = 10 then if h5 : r5 = 10 then if h6 : r6 = 10 then some ⟨(),by subst h0 h1 h2 h3 h4 h5 h6; rfl⟩ else none else none else none else none else none else none else none
  | _ => none
def decq21_n0 (s : St) : Option Iq21_n0 := pk (decPq21_n0 s)
theorem decq21_n0_ok (s : St) (x : Iq21_n0) (h : decq21_n0 s = some x) : s = Sq21_n0 x := pk_ok (o := decPq21_n0 s) h
def outq21_n0 : Iq21_n0 → (Ex → St → Ans) → Yq21_n0 → Ans := fun _ K => fun _ => K (Ex.norm) { env := [(4,.bool (true))],stk := [[]],H := [],blk := 53248 }
def nodeq21_n0 {β : Type} : Iq21_n0 → (Yq21_n0 → Option β) → Option β := fun _ exit => (bindO (fnDq70 ()) fun _ => (exit ()))
def nodeDq21_n0 (i : Iq21_n0) : Option Yq21_n0 := nodeq21_n0 i some
theorem nodeq21_n0_nat (i : Iq21_n0) (k : Yq21_n0 → Ans) : nodeq21_n0 i k = bindO (nodeDq21_n0 i) k := by
  obtain z := i
  simp only [nodeDq21_n0,nodeq21_n0,bindO_cond,bindO_assoc,bindO_none,bindO_pure,bindO_elim,bindO_unP,bindO_empty]
theorem nodeq21_n0_ok (i : Iq21_n0) (K : Ex → St → Ans) : codeI Tryz.tab envq21 noHint (codeD Tryz.tab envq21 noHint 0 64) 70 99 annLq21_n0 Lq21_n0 (weakP 0 (exk [4] [4] []) K) (Sq21_n0 i) = nodeq21_n0 i (outq21_n0 i K) := by kernel_rfl
theorem GNq21_n0_ok : CSum Tryz.prog 99 Lq21_n0 (sumN decq21_n0 nodeDq21_n0 outq21_n0) := csum_node mixed tabOk envq21Ok 0 (exk [4] [4] []) annLq21_n0_ok decq21_n0_ok nodeq21_n0_ok nodeq21_n0_nat
noncomputable def Gq21_n0 : (Ex → St → Ans) → St → Ans := (sumN decq21_n0 nodeDq21_n0 outq21_n0)
theorem Gq21_n0_ok : CSum Tryz.prog 99 Lq21_n0 Gq21_n0 := GNq21_n0_ok
noncomputable def annq21 : Ann := (.seq .none (.seq .none (.seq .none (.seq .none (.seq .none (.seq .none (.seq .none (.seq .none (.seq .none (.seq .none (.seq (.cut 0 [5,8,9,11,13,15,17,19] Gq21_n0) .none)))))))))))
theorem annq21_ok : AnnOk Tryz.prog 99 bq21 annq21 := ⟨(annOk_none _ _ _),⟨(annOk_none _ _ _),⟨(annOk_none _ _ _),⟨(annOk_none _ _ _),⟨(annOk_none _ _ _),⟨(annOk_none _ _ _),⟨(annOk_none _ _ _),⟨(annOk_none _ _ _),⟨(annOk_none _ _ _),⟨(annOk_none _ _ _),⟨Gq21_n0_ok,(annOk_none _ _ _)⟩⟩⟩⟩⟩⟩⟩⟩⟩⟩⟩
abbrev Aq21 := (Int) × (Int) × (Int) × (Int) × (List UInt8) × (Int) × (Int) × (List UInt8)
abbrev Yq21 := Unit
def fnq21 {β : Type} : Aq21 → (Yq21 → Option β) → Option β := fun (a0,a1_0,a1_1,a1_2,a1_3,a1_4,a1_5,a1_6) exit => (bindO (fnDlaw22_works ()) fun _ => (bif decide (IntKind.wrap .i64 ((↑(List.length a1_3) : Int) + (↑(List.length a1_6) : Int)) > (2000 : Int)) then (exit ()) else (bindO (fnDq72 (a0)) fun _ => (bindO (fnDq69 (a0)) fun _ => (bindO (fnDq71 ()) fun _ => (bindO (fnDq73 (a1_0,a1_1,a1_2,a1_3,a1_4,a1_5,a1_6)) fun _ => (bindO (fnDq74 (a0)) fun _ => (bindO (fnDq68 ()) fun _ => (bindO (nodeDq21_n0 ()) fun _ => (exit ()))))))))))
def fnDq21 (a : Aq21) : Option Yq21 := fnq21 a some
theorem fnq21_nat (a : Aq21) (k : Yq21 → Ans) : fnq21 a k = bindO (fnDq21 a) k := by
  obtain ⟨a0,a1_0,a1_1,a1_2,a1_3,a1_4,a1_5,a1_6⟩ := a
  simp only [fnDq21,fnq21,bindO_cond,bindO_assoc,bindO_none,bindO_pure,bindO_elim,bindO_unP,bindO_empty]
def argsq21 : Aq21 → List AV × List AE.Obj := fun (a0,a1_0,a1_1,a1_2,a1_3,a1_4,a1_5,a1_6) => ([.int .i64 a0,.agg [.int .i64 a1_0,.int .i64 a1_1,.int .i64 a1_2,.str a1_3,.int .i64 a1_4,.int .i64 a1_5,.str a1_6]],[])
def decPAq21 (l : List AV) (H : List AE.Obj) : Option {a : Aq21 // (l,H) = argsq21 a} := match l,H with
  | [.int .i64 a0,.agg [.int .i64 a1_0,.int .i64 a1_1,.int .i64 a1_2,.str a1_3,.int .i64 a1_4,.int .i64 a1_5,.str a1_6]],[] => some ⟨(a0,a1_0,a1_1,a1_2,a1_3,a1_4,a1_5,a1_6),rfl⟩
  | _,_ => none
def decAq21 (l : List AV) (H : List AE.Obj) : Option Aq21 := pk (decPAq21 l H)
theorem decAq21_ok (l : List AV) (H : List AE.Obj) (a : Aq21) (h : decAq21 l H = some a) : (l,H) = argsq21 a := pk_ok (o := decPAq21 l H) h
def outq21 : Aq21 → (AV → List AE.Obj → Ans) → Yq21 → Ans := fun (a0,a1_0,a1_1,a1_2,a1_3,a1_4,a1_5,a1_6) K => fun _ => K (.bool (true)) []
theorem fnq21_ok (a : Aq21) (K : AV → List AE.Obj → Ans) : fnE Tryz.tab envq21 noHint 0 70 13 Tryz.f13.ntmps Tryz.f13.results.toList annq21 bq21 (argsq21 a).1 (argsq21 a).2 K = fnq21 a (outq21 a K) := by kernel_rfl
def vFq21 (a : Aq21) (K : AV → List AE.Obj → Ans) : Ans := bindO (fnDq21 a) fun y => outq21 a K y
def Fq21 : List AV → List AE.Obj → (AV → List AE.Obj → Ans) → Ans := fun l H K => bindO (decAq21 l H) fun a => vFq21 a K
theorem Fq21_ok : FuncOk Tryz.prog 13 Fq21 := func_mkD (hint := noHint) (d := 0) (n := 70) mixed tabOk envq21Ok Tryz.func13 (bodySome (by kernel_rfl)) (by decide +kernel) annq21_ok decAq21_ok fnq21_ok fnq21_nat
end Go.Proofs.R7D
namespace Go.Proofs.R7D
open Go Go.AE
open Go.Proofs.R7 (fnDlaw22_works)
theorem index_none (a : Int) : fnDq82 ([], a) = some (-1) := by kernel_rfl
theorem find_none (a : Int) : fnDq69 a = some () := by
  simp only [fnDq69, fnq69, index_none]
  rfl
theorem SideNone_true (a e v1 v2 w1 w2 : Int) (s t : List UInt8) : fnDq21 (a, e, v1, v2, s, w1, w2, t) = some () := by
  simp only [fnDq21, fnq21, fnDq74, fnq74, find_none]
  generalize decide (IntKind.wrap IntKind.i64 _ > (2000 : Int)) = b
  cases b <;> rfl
end Go.Proofs.R7D

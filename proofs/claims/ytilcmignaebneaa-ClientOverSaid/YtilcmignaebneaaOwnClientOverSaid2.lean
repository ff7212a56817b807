/- What the functions that ClientOverSaid reaches compute: part 2. -/
import Derived.Test.YtilcmignaebneaaOwnClientOverSaid1
set_option linter.unusedVariables false
set_option linter.unusedSimpArgs false
namespace Go.Proofs.R8
open Go Go.AE
set_option maxRecDepth 100000
--@ client_Client_Write_4
noncomputable def envq23 : Env := [(21,.func Fq29),(42,.func (altF decAq41 vFq41 Fq42))]
theorem envq23Ok : EnvOk Try.prog envq23 := EnvOk.cons Fq29_ok (EnvOk.cons (func_altF Fq41_ok Fq42_ok) (EnvOk.nil))
noncomputable def bq23 : Code := Try.f9.body.getD .skip
noncomputable def annq23 : Ann := .none
theorem annq23_ok : AnnOk Try.prog 44 bq23 annq23 := (annOk_none _ _ _)
abbrev Aq23 := (Int) × (List UInt8) × (Int) × (List Int) × (Int) × (Int) × (List Int) × (Int) × (Int) × (List (Int × List UInt8)) × (List (Int × Int)) × (List Int) × (List (Int × Int)) × (List (Int × List UInt8)) × (List Int) × (List (Int × Int)) × (List (Int × List UInt8))
abbrev Yq23 := ((Int) × (Int) × (Int) × (Int) × (Int) × (List (Int × List UInt8))) ⊕ ((Int) × (Int) × (Int) × (List (Int × List UInt8)) × (List (Int × List UInt8))) ⊕ ((Int) × (Int) × (Int) × (List (Int × List UInt8)) × (List (Int × List UInt8)))
def fnq23 {β : Type} : Aq23 → (Yq23 → Option β) → Option β := fun (a1,a2,o0_2,o1_1,o1_4,o1_5,o2_0,o2_4,o2_5,o3,o4,o5,o6,o7,o8,o9,o10) exit => (bindO (fnDq29 (o0_2,o1_1,o1_4,o1_5,o2_0,o2_4,o2_5,o3,o4,o5,o6,o7,o8,o9,o10)) (Sum.elim (fun _ => (bif decide ((↑(List.length o3) : Int) ≥ (200 : Int)) then (exit (Sum.inl ((6 : Int),o1_4,o1_5,o2_4,o2_5,o3))) else (bindO (fnDq41 (a1,a2,o1_1,o1_4,o1_5,o5,o6,o7)) (Sum.elim (unP fun r_0_0 => unP fun r_0_1 => unP fun r_1 => unP fun o0_4 => unP fun o0_5 o4_2 => (bif r_1 != (0 : Int) then (exit (Sum.inr (Sum.inl (r_1,o0_4,o0_5,o3,o4_2)))) else (bif Nat.ble ((List.length o3 + List.length [(a1,a2)]) * (24 : Nat)) (140737488355328 : Nat) then (exit (Sum.inr (Sum.inl ((0 : Int),o0_4,o0_5,o3 ++ [(a1,a2)],o4_2)))) else none))) (unP fun r_0_0 => unP fun r_0_1 => unP fun r_1 => unP fun o0_4 o0_5 => (bif r_1 != (0 : Int) then (exit (Sum.inl (r_1,o0_4,o0_5,o2_4,o2_5,o3))) else (bif Nat.ble ((List.length o3 + List.length [(a1,a2)]) * (24 : Nat)) (140737488355328 : Nat) then (exit (Sum.inl ((0 : Int),o0_4,o0_5,o2_4,o2_5,o3 ++ [(a1,a2)]))) else none))))))) (fun _ => (bif decide ((↑(List.length o3) : Int) ≥ (200 : Int)) then (exit (Sum.inl ((6 : Int),o1_4,o1_5,o2_4,o2_5,o3))) else (bindO (fnDq42 (a1,a2,o2_0,o2_4,o2_5,o8,o9,o10)) (Sum.elim (unP fun r_0_0 => unP fun r_0_1 => unP fun r_1 => unP fun o0_4 => unP fun o0_5 o4_2 => (bif r_1 != (0 : Int) then (exit (Sum.inr (Sum.inr (r_1,o0_4,o0_5,o3,o4_2)))) else (bif Nat.ble ((List.length o3 + List.length [(a1,a2)]) * (24 : Nat)) (140737488355328 : Nat) then (exit (Sum.inr (Sum.inr ((0 : Int),o0_4,o0_5,o3 ++ [(a1,a2)],o4_2)))) else none))) (unP fun r_0_0 => unP fun r_0_1 => unP fun r_1 => unP fun o0_4 o0_5 => (bif r_1 != (0 : Int) then (exit (Sum.inl (r_1,o1_4,o1_5,o0_4,o0_5,o3))) else (bif Nat.ble ((List.length o3 + List.length [(a1,a2)]) * (24 : Nat)) (140737488355328 : Nat) then (exit (Sum.inl ((0 : Int),o1_4,o1_5,o0_4,o0_5,o3 ++ [(a1,a2)]))) else none)))))))))
def fnDq23 (a : Aq23) : Option Yq23 := fnq23 a some
theorem fnq23_nat (a : Aq23) (k : Yq23 → Ans) : fnq23 a k = bindO (fnDq23 a) k := by
  obtain ⟨a1,a2,o0_2,o1_1,o1_4,o1_5,o2_0,o2_4,o2_5,o3,o4,o5,o6,o7,o8,o9,o10⟩ := a
  simp only [fnDq23,fnq23,bindO_cond,bindO_assoc,bindO_none,bindO_pure,bindO_elim,bindO_unP,bindO_empty]
def argsq23 : Aq23 → List AV × List AE.Obj := fun (a1,a2,o0_2,o1_1,o1_4,o1_5,o2_0,o2_4,o2_5,o3,o4,o5,o6,o7,o8,o9,o10) => ([.ptr 0 0,.int .i64 a1,.str a2],[.cells [.ifc 27 (.ptr 1 0),.ifc 27 (.ptr 2 0),.int .i64 o0_2,.own 3,.own 4],.cells [.own 5,.ro (.int .i64) o1_1,.own 6,.own 7,.int .i64 o1_4,.int .i64 o1_5],.cells [.ro (.int .i64) o2_0,.own 8,.own 9,.own 10,.int .i64 o2_4,.int .i64 o2_5],.arr (.st (.pair (.int .i64) .str)) o3,.arr (.st (.pair (.int .i64) (.int .i64))) o4,.arr (.int .i64) o5,.arr (.st (.pair (.int .i64) (.int .i64))) o6,.arr (.st (.pair (.int .i64) .str)) o7,.arr (.int .i64) o8,.arr (.st (.pair (.int .i64) (.int .i64))) o9,.arr (.st (.pair (.int .i64) .str)) o10])
def decPAq23 (l : List AV) (H : List AE.Obj) : Option {a : Aq23 // (l,H) = argsq23 a} := match l,H with
  | [.ptr 0 0,.int .i64 a1,.str a2],[.cells [.ifc 27 (.ptr 1 0),.ifc 27 (.ptr 2 0),.int .i64 o0_2,.own 3,.own 4],.cells [.own 5,.ro (.int .i64) o1_1,.own 6,.own 7,.int .i64 o1_4,.int .i64 o1_5],.cells [.ro (.int .i64) o2_0,.own 8,.own 9,.own 10,.int .i64 o2_4,.int .i64 o2_5],.arr (.st (.pair (.int .i64) .str)) o3,.arr (.st (.pair (.int .i64) (.int .i64))) o4,.arr (.int .i64) o5,.arr (.st (.pair (.int .i64) (.int .i64))) o6,.arr (.st (.pair (.int .i64) .str)) o7,.arr (.int .i64) o8,.arr (.st (.pair (.int .i64) (.int .i64))) o9,.arr (.st (.pair (.int .i64) .str)) o10] => some ⟨(a1,a2,o0_2,o1_1,o1_4,o1_5,o2_0,o2_4,o2_5,o3,o4,o5,o6,o7,o8,o9,o10),rfl⟩
  | _,_ => none
def decAq23 (l : List AV) (H : List AE.Obj) : Option Aq23 := pk (decPAq23 l H)
theorem decAq23_ok (l : List AV) (H : List AE.Obj) (a : Aq23) (h : decAq23 l H = some a) : (l,H) = argsq23 a := pk_ok (o := decPAq23 l H) h
def outq23 : Aq23 → (AV → List AE.Obj → Ans) → Yq23 → Ans := fun (a1,a2,o0_2,o1_1,o1_4,o1_5,o2_0,o2_4,o2_5,o3,o4,o5,o6,o7,o8,o9,o10) K => (Sum.elim (unP fun r_y => unP fun o1_4_y => unP fun o1_5_y => unP fun o2_4_y => unP fun o2_5_y o3_y => K (.int .i64 r_y) [.cells [.ifc 27 (.ptr 1 0),.ifc 27 (.ptr 2 0),.int .i64 o0_2,.own 3,.own 4],.cells [.own 5,.ro (.int .i64) o1_1,.own 6,.own 7,.int .i64 o1_4_y,.int .i64 o1_5_y],.cells [.ro (.int .i64) o2_0,.own 8,.own 9,.own 10,.int .i64 o2_4_y,.int .i64 o2_5_y],.arr (.st (.pair (.int .i64) .str)) o3_y,.arr (.st (.pair (.int .i64) (.int .i64))) o4,.arr (.int .i64) o5,.arr (.st (.pair (.int .i64) (.int .i64))) o6,.arr (.st (.pair (.int .i64) .str)) o7,.arr (.int .i64) o8,.arr (.st (.pair (.int .i64) (.int .i64))) o9,.arr (.st (.pair (.int .i64) .str)) o10]) ((Sum.elim (unP fun r_y => unP fun o1_4_y => unP fun o1_5_y => unP fun o3_y o11_y => K (.int .i64 r_y) [.cells [.ifc 27 (.ptr 1 0),.ifc 27 (.ptr 2 0),.int .i64 o0_2,.own 3,.own 4],.cells [.own 5,.ro (.int .i64) o1_1,.own 6,.own 11,.int .i64 o1_4_y,.int .i64 o1_5_y],.cells [.ro (.int .i64) o2_0,.own 8,.own 9,.own 10,.int .i64 o2_4,.int .i64 o2_5],.arr (.st (.pair (.int .i64) .str)) o3_y,.arr (.st (.pair (.int .i64) (.int .i64))) o4,.arr (.int .i64) o5,.arr (.st (.pair (.int .i64) (.int .i64))) o6,.arr (.st (.pair (.int .i64) .str)) o7,.arr (.int .i64) o8,.arr (.st (.pair (.int .i64) (.int .i64))) o9,.arr (.st (.pair (.int .i64) .str)) o10,.arr (.st (.pair (.int .i64) .str)) o11_y]) (unP fun r_y => unP fun o2_4_y => unP fun o2_5_y => unP fun o3_y o11_y => K (.int .i64 r_y) [.cells [.ifc 27 (.ptr 1 0),.ifc 27 (.ptr 2 0),.int .i64 o0_2,.own 3,.own 4],.cells [.own 5,.ro (.int .i64) o1_1,.own 6,.own 7,.int .i64 o1_4,.int .i64 o1_5],.cells [.ro (.int .i64) o2_0,.own 8,.own 9,.own 11,.int .i64 o2_4_y,.int .i64 o2_5_y],.arr (.st (.pair (.int .i64) .str)) o3_y,.arr (.st (.pair (.int .i64) (.int .i64))) o4,.arr (.int .i64) o5,.arr (.st (.pair (.int .i64) (.int .i64))) o6,.arr (.st (.pair (.int .i64) .str)) o7,.arr (.int .i64) o8,.arr (.st (.pair (.int .i64) (.int .i64))) o9,.arr (.st (.pair (.int .i64) .str)) o10,.arr (.st (.pair (.int .i64) .str)) o11_y]))))
theorem fnq23_ok (a : Aq23) (K : AV → List AE.Obj → Ans) : fnE Try.tab envq23 noHint 0 70 9 Try.f9.ntmps Try.f9.results.toList annq23 bq23 (argsq23 a).1 (argsq23 a).2 K = fnq23 a (outq23 a K) := by kernel_rfl
def vFq23 (a : Aq23) (K : AV → List AE.Obj → Ans) : Ans := bindO (fnDq23 a) fun y => outq23 a K y
def Fq23 : List AV → List AE.Obj → (AV → List AE.Obj → Ans) → Ans := fun l H K => bindO (decAq23 l H) fun a => vFq23 a K
theorem Fq23_ok : FuncOk Try.prog 9 Fq23 := func_mkD (hint := noHint) (d := 0) (n := 70) mixed tabOk envq23Ok Try.func9 (bodySome (by kernel_rfl)) (by decide +kernel) annq23_ok decAq23_ok fnq23_ok fnq23_nat
--@ law44_Tape_Flush_2
noncomputable def envq37 : Env := [(15,.func Fq44)]
theorem envq37Ok : EnvOk Try.prog envq37 := EnvOk.cons Fq44_ok (EnvOk.nil)
noncomputable def bq37 : Code := Try.f40.body.getD .skip
noncomputable def annq37 : Ann := .none
theorem annq37_ok : AnnOk Try.prog 8 bq37 annq37 := (annOk_none _ _ _)
abbrev Aq37 := (List Int) × (Int) × (Int) × (List Int) × (List (Int × Int)) × (List (Int × List UInt8))
abbrev Yq37 := (Int) × (Int) × (Int) × (Int) × (Int)
def fnq37 {β : Type} : Aq37 → (Yq37 → Option β) → Option β := fun (o0_1,o0_4,o0_5,o1,o2,o3) exit => (bindO (fnDq44 (o0_1,o0_4,o0_5,o1,o2,o3)) (unP fun r_0_0 => unP fun r_0_1 => unP fun r_1 => unP fun o0_4_2 o0_5_2 => (exit (r_0_0,r_0_1,r_1,o0_4_2,o0_5_2))))
def fnDq37 (a : Aq37) : Option Yq37 := fnq37 a some
theorem fnq37_nat (a : Aq37) (k : Yq37 → Ans) : fnq37 a k = bindO (fnDq37 a) k := by
  obtain ⟨o0_1,o0_4,o0_5,o1,o2,o3⟩ := a
  simp only [fnDq37,fnq37,bindO_cond,bindO_assoc,bindO_none,bindO_pure,bindO_elim,bindO_unP,bindO_empty]
def argsq37 : Aq37 → List AV × List AE.Obj := fun (o0_1,o0_4,o0_5,o1,o2,o3) => ([.ptr 0 0],[.cells [.own 1,.ro (.int .i64) o0_1,.own 2,.own 3,.int .i64 o0_4,.int .i64 o0_5],.arr (.int .i64) o1,.arr (.st (.pair (.int .i64) (.int .i64))) o2,.arr (.st (.pair (.int .i64) .str)) o3])
def decPAq37 (l : List AV) (H : List AE.Obj) : Option {a : Aq37 // (l,H) = argsq37 a} := match l,H with
  | [.ptr 0 0],[.cells [.own 1,.ro (.int .i64) o0_1,.own 2,.own 3,.int .i64 o0_4,.int .i64 o0_5],.arr (.int .i64) o1,.arr (.st (.pair (.int .i64) (.int .i64))) o2,.arr (.st (.pair (.int .i64) .str)) o3] => some ⟨(o0_1,o0_4,o0_5,o1,o2,o3),rfl⟩
  | _,_ => none
def decAq37 (l : List AV) (H : List AE.Obj) : Option Aq37 := pk (decPAq37 l H)
theorem decAq37_ok (l : List AV) (H : List AE.Obj) (a : Aq37) (h : decAq37 l H = some a) : (l,H) = argsq37 a := pk_ok (o := decPAq37 l H) h
def outq37 : Aq37 → (AV → List AE.Obj → Ans) → Yq37 → Ans := fun (o0_1,o0_4,o0_5,o1,o2,o3) K => unP fun r_0_0_y => unP fun r_0_1_y => unP fun r_1_y => unP fun o0_4_y o0_5_y => K (.tup [.agg [.int .i64 r_0_0_y,.int .i64 r_0_1_y],.int .i64 r_1_y]) [.cells [.own 1,.ro (.int .i64) o0_1,.own 2,.own 3,.int .i64 o0_4_y,.int .i64 o0_5_y],.arr (.int .i64) o1,.arr (.st (.pair (.int .i64) (.int .i64))) o2,.arr (.st (.pair (.int .i64) .str)) o3]
theorem fnq37_ok (a : Aq37) (K : AV → List AE.Obj → Ans) : fnE Try.tab envq37 noHint 0 70 40 Try.f40.ntmps Try.f40.results.toList annq37 bq37 (argsq37 a).1 (argsq37 a).2 K = fnq37 a (outq37 a K) := by kernel_rfl
def vFq37 (a : Aq37) (K : AV → List AE.Obj → Ans) : Ans := bindO (fnDq37 a) fun y => outq37 a K y
def Fq37 : List AV → List AE.Obj → (AV → List AE.Obj → Ans) → Ans := fun l H K => bindO (decAq37 l H) fun a => vFq37 a K
theorem Fq37_ok : FuncOk Try.prog 40 Fq37 := func_mkD (hint := noHint) (d := 0) (n := 70) mixed tabOk envq37Ok Try.func40 (bodySome (by kernel_rfl)) (by decide +kernel) annq37_ok decAq37_ok fnq37_ok fnq37_nat
--@ client_Client_forget_2
noncomputable def envq25 : Env := []
theorem envq25Ok : EnvOk Try.prog envq25 := EnvOk.nil
noncomputable def bq25 : Code := Try.f22.body.getD .skip
noncomputable def Lq25_n0 : Code := codeAt [1,1,1,1,0,0] bq25
noncomputable def annLq25_n0 : Ann := .at 11 [0,1,30,31] (.loop .none)
theorem annLq25_n0_ok : AnnOk Try.prog 53 (.loop Lq25_n0) annLq25_n0 := annOk_at (annOk_none _ _ _)
abbrev Iq25_n0 := (Int) × (Int) × (Int) × (List Int) × (Int) × (Int) × (List Int) × (Int) × (Int) × (List (Int × List UInt8)) × (List Int) × (List (Int × Int)) × (List (Int × List UInt8)) × (List Int) × (List (Int × Int)) × (List (Int × List UInt8)) × (List (Int × List UInt8))
abbrev Yq25_n0 := (List (Int × Int))
abbrev Vq25_n0 := (Int) × (List (Int × Int))
def Sq25_n0 : Iq25_n0 → Vq25_n0 → St := fun (t1,t30,o0_2,o1_1,o1_4,o1_5,o2_0,o2_4,o2_5,o3,o5,o6,o7,o8,o9,o10,o11) (t31,o4) => { env := [(0,.ptr 0 0),(1,.int .i64 t1),(30,.int .i64 t30),(31,.int .i64 t31)],stk := [[(0,.ptr 0 0),(1,.ptr 1 0),(2,.ptr 2 0)]],H := [.cells [.ifc 27 (.ptr 1 0),.ifc 27 (.ptr 2 0),.int .i64 o0_2,.own 11,.own 4],.cells [.own 5,.ro (.int .i64) o1_1,.own 6,.own 7,.int .i64 o1_4,.int .i64 o1_5],.cells [.ro (.int .i64) o2_0,.own 8,.own 9,.own 10,.int .i64 o2_4,.int .i64 o2_5],.arr (.st (.pair (.int .i64) .str)) o3,.arr (.st (.pair (.int .i64) (.int .i64))) o4,.arr (.int .i64) o5,.arr (.st (.pair (.int .i64) (.int .i64))) o6,.arr (.st (.pair (.int .i64) .str)) o7,.arr (.int .i64) o8,.arr (.st (.pair (.int .i64) (.int .i64))) o9,.arr (.st (.pair (.int .i64) .str)) o10,.arr (.st (.pair (.int .i64) .str)) o11],blk := 90112 }
def decPq25_n0 (s : St) : Option {x : Iq25_n0 × Vq25_n0 // s = Sq25_n0 x.1 x.2} := match s with
  | { env := [(0,.ptr 0 0),(1,.int .i64 t1),(30,.int .i64 t30),(31,.int .i64 t31)],stk := [[(0,.ptr 0 0),(1,.ptr 1 0),(2,.ptr 2 0)]],H := [.cells [.ifc 27 (.ptr 1 0),.ifc 27 (.ptr 2 0),.int .i64 o0_2,.own 11,.own 4],.cells [.own 5,.ro (.int .i64) o1_1,.own 6,.own 7,.int .i64 o1_4,.int .i64 o1_5],.cells [.ro (.int .i64) o2_0,.own 8,.own 9,.own 10,.int .i64 o2_4,.int .i64 o2_5],.arr (.st (.pair (.int .i64) .str)) o3,.arr (.st (.pair (.int .i64) (.int .i64))) o4,.arr (.int .i64) o5,.arr (.st (.pair (.int .i64) (.int .i64))) o6,.arr (.st (.pair (.int .i64) .str)) o7,.arr (.int .i64) o8,.arr (.st (.pair (.int .i64) (.int .i64))) o9,.arr (.st (.pair (.int .i64) .str)) o10,.arr (.st (.pair (.int .i64) .str)) o11],blk := 90112 } => some ⟨((t1,t30,o0_2,o1_1,o1_4,o1_5,o2_0,o2_4,o2_5,o3,o5,o6,o7,o8,o9,o10,o11),(t31,o4)),rfl⟩
  | _ => none
def decq25_n0 (s : St) : Option (Iq25_n0 × Vq25_n0) := pk (decPq25_n0 s)
theorem decq25_n0_ok (s : St) (x : Iq25_n0 × Vq25_n0) (h : decq25_n0 s = some x) : s = Sq25_n0 x.1 x.2 := pk_ok (o := decPq25_n0 s) h
def outq25_n0 : Iq25_n0 → (Ex → St → Ans) → Yq25_n0 → Ans := fun (t1,t30,o0_2,o1_1,o1_4,o1_5,o2_0,o2_4,o2_5,o3,o5,o6,o7,o8,o9,o10,o11) K => fun o4_y => K (Ex.exit 0) { env := [],stk := [[(0,.ptr 0 0),(1,.ptr 1 0),(2,.ptr 2 0)]],H := [.cells [.ifc 27 (.ptr 1 0),.ifc 27 (.ptr 2 0),.int .i64 o0_2,.own 11,.own 4],.cells [.own 5,.ro (.int .i64) o1_1,.own 6,.own 7,.int .i64 o1_4,.int .i64 o1_5],.cells [.ro (.int .i64) o2_0,.own 8,.own 9,.own 10,.int .i64 o2_4,.int .i64 o2_5],.arr (.st (.pair (.int .i64) .str)) o3,.arr (.st (.pair (.int .i64) (.int .i64))) o4_y,.arr (.int .i64) o5,.arr (.st (.pair (.int .i64) (.int .i64))) o6,.arr (.st (.pair (.int .i64) .str)) o7,.arr (.int .i64) o8,.arr (.st (.pair (.int .i64) (.int .i64))) o9,.arr (.st (.pair (.int .i64) .str)) o10,.arr (.st (.pair (.int .i64) .str)) o11],blk := 90112 }
def stepq25_n0 {β : Type} : Iq25_n0 → Vq25_n0 → (Vq25_n0 → Option β) → (Yq25_n0 → Option β) → Option β := fun (t1,t30,o0_2,o1_1,o1_4,o1_5,o2_0,o2_4,o2_5,o3,o5,o6,o7,o8,o9,o10,o11) (t31,o4) next exit => (bif decide (t31 < t30) then (bif inR t31 (List.length o4) then (bindO (o4[Int.toNat t31]?) fun x => (bif inR t31 (List.length o4) then (bindO (o4[Int.toNat t31]?) fun x_2 => (next (IntKind.wrap .i64 (t31 + (1 : Int)),List.set o4 (Int.toNat t31) (x_2.fst,if (0 : Int) > IntKind.wrap .i64 (x.snd - t1) then (0 : Int) else IntKind.wrap .i64 (x.snd - t1))))) else none)) else none) else (exit (o4)))
def stepDq25_n0 (i : Iq25_n0) (v : Vq25_n0) : Option (Vq25_n0 ⊕ Yq25_n0) := stepq25_n0 i v (fun v => some (.inl v)) (fun y => some (.inr y))
theorem stepq25_n0_nat (i : Iq25_n0) (v : Vq25_n0) (next : Vq25_n0 → Ans) (exit : Yq25_n0 → Ans) : stepq25_n0 i v next exit = bindO (stepDq25_n0 i v) (Sum.elim next exit) := by
  obtain ⟨t1,t30,o0_2,o1_1,o1_4,o1_5,o2_0,o2_4,o2_5,o3,o5,o6,o7,o8,o9,o10,o11⟩ := i
  obtain ⟨t31,o4⟩ := v
  simp only [stepDq25_n0,stepq25_n0,bindO_cond,bindO_assoc,bindO_none,bindO_pure,bindO_elim,bindO_unP,bindO_empty,Sum.elim_inl,Sum.elim_inr]
theorem stepq25_n0_ok (n : Nat) (i : Iq25_n0) (v : Vq25_n0) (K : Ex → St → Ans) : codeI Try.tab envq25 noHint (codeD Try.tab envq25 noHint 0 64) (n+1) 53 annLq25_n0 (.loop Lq25_n0) (weakP 11 (exk [] [] [(0,[])]) K) (Sq25_n0 i v) = stepq25_n0 i v (fun v' => codeI Try.tab envq25 noHint (codeD Try.tab envq25 noHint 0 64) n 53 annLq25_n0 (.loop Lq25_n0) (weakP 11 (exk [] [] [(0,[])]) K) (Sq25_n0 i v')) (fun y => outq25_n0 i K y) := by kernel_rfl
theorem GNq25_n0_ok : CSum Try.prog 53 (.loop Lq25_n0) (sumL decq25_n0 stepDq25_n0 outq25_n0) := csum_loop mixed tabOk envq25Ok 11 (exk [] [] [(0,[])]) annLq25_n0_ok decq25_n0_ok stepq25_n0_ok stepq25_n0_nat
noncomputable def Gq25_n0 : (Ex → St → Ans) → St → Ans := (sumL decq25_n0 stepDq25_n0 outq25_n0)
theorem Gq25_n0_ok : CSum Try.prog 53 (.loop Lq25_n0) Gq25_n0 := GNq25_n0_ok
noncomputable def annq25 : Ann := (.seq .none (.seq .none (.seq .none (.seq .none (.block (.cut 11 [0,1,30,31] Gq25_n0))))))
theorem annq25_ok : AnnOk Try.prog 53 bq25 annq25 := ⟨(annOk_none _ _ _),⟨(annOk_none _ _ _),⟨(annOk_none _ _ _),⟨(annOk_none _ _ _),Gq25_n0_ok⟩⟩⟩⟩
abbrev Aq25 := (Int) × (Int) × (List Int) × (Int) × (Int) × (List Int) × (Int) × (Int) × (List (Int × List UInt8)) × (List (Int × Int)) × (List Int) × (List (Int × Int)) × (List (Int × List UInt8)) × (List Int) × (List (Int × Int)) × (List (Int × List UInt8))
abbrev Yq25 := (List (Int × Int)) × (List (Int × List UInt8))
def fnq25 {β : Type} : Aq25 → (Yq25 → Option β) → Option β := fun (a1,o0_2,o1_1,o1_4,o1_5,o2_0,o2_4,o2_5,o3,o4,o5,o6,o7,o8,o9,o10) exit => (bif decide ((0 : Int) ≤ IntKind.wrap .i64 ((↑(List.length o3) : Int) - a1)) && decide (IntKind.wrap .i64 ((↑(List.length o3) : Int) - a1) ≤ IntKind.wrap .i64 ((↑(List.length o3) : Int) - a1)) && decide ((24 : Int) * IntKind.wrap .i64 ((↑(List.length o3) : Int) - a1) ≤ (281474976710656 : Int)) && decide (IntKind.wrap .i64 ((↑(List.length o3) : Int) - a1) ≤ (9223372036854775807 : Int)) then (bif inR a1 (List.length o3 + (1 : Nat)) then (bif Nat.ble (Int.toNat a1 + (List.length o3 - Int.toNat a1)) (List.length o3) then (bindO (loopD (stepDq25_n0 (a1,(↑(List.length o4) : Int),o0_2,o1_1,o1_4,o1_5,o2_0,o2_4,o2_5,o3,o5,o6,o7,o8,o9,o10,List.take (List.length (List.replicate (Int.toNat (IntKind.wrap .i64 ((↑(List.length o3) : Int) - a1))) ((0 : Int),nilL UInt8))) (List.take (List.length o3 - Int.toNat a1) (List.drop (Int.toNat a1) o3)) ++ List.drop (List.length (List.take (List.length o3 - Int.toNat a1) (List.drop (Int.toNat a1) o3))) (List.replicate (Int.toNat (IntKind.wrap .i64 ((↑(List.length o3) : Int) - a1))) ((0 : Int),nilL UInt8)))) FUEL ((0 : Int),o4)) fun o4_2 => (exit (o4_2,List.take (List.length (List.replicate (Int.toNat (IntKind.wrap .i64 ((↑(List.length o3) : Int) - a1))) ((0 : Int),nilL UInt8))) (List.take (List.length o3 - Int.toNat a1) (List.drop (Int.toNat a1) o3)) ++ List.drop (List.length (List.take (List.length o3 - Int.toNat a1) (List.drop (Int.toNat a1) o3))) (List.replicate (Int.toNat (IntKind.wrap .i64 ((↑(List.length o3) : Int) - a1))) ((0 : Int),nilL UInt8))))) else none) else none) else none)
def fnDq25 (a : Aq25) : Option Yq25 := fnq25 a some
theorem fnq25_nat (a : Aq25) (k : Yq25 → Ans) : fnq25 a k = bindO (fnDq25 a) k := by
  obtain ⟨a1,o0_2,o1_1,o1_4,o1_5,o2_0,o2_4,o2_5,o3,o4,o5,o6,o7,o8,o9,o10⟩ := a
  simp only [fnDq25,fnq25,bindO_cond,bindO_assoc,bindO_none,bindO_pure,bindO_elim,bindO_unP,bindO_empty]
def argsq25 : Aq25 → List AV × List AE.Obj := fun (a1,o0_2,o1_1,o1_4,o1_5,o2_0,o2_4,o2_5,o3,o4,o5,o6,o7,o8,o9,o10) => ([.ptr 0 0,.int .i64 a1],[.cells [.ifc 27 (.ptr 1 0),.ifc 27 (.ptr 2 0),.int .i64 o0_2,.own 3,.own 4],.cells [.own 5,.ro (.int .i64) o1_1,.own 6,.own 7,.int .i64 o1_4,.int .i64 o1_5],.cells [.ro (.int .i64) o2_0,.own 8,.own 9,.own 10,.int .i64 o2_4,.int .i64 o2_5],.arr (.st (.pair (.int .i64) .str)) o3,.arr (.st (.pair (.int .i64) (.int .i64))) o4,.arr (.int .i64) o5,.arr (.st (.pair (.int .i64) (.int .i64))) o6,.arr (.st (.pair (.int .i64) .str)) o7,.arr (.int .i64) o8,.arr (.st (.pair (.int .i64) (.int .i64))) o9,.arr (.st (.pair (.int .i64) .str)) o10])
def decPAq25 (l : List AV) (H : List AE.Obj) : Option {a : Aq25 // (l,H) = argsq25 a} := match l,H with
  | [.ptr 0 0,.int .i64 a1],[.cells [.ifc 27 (.ptr 1 0),.ifc 27 (.ptr 2 0),.int .i64 o0_2,.own 3,.own 4],.cells [.own 5,.ro (.int .i64) o1_1,.own 6,.own 7,.int .i64 o1_4,.int .i64 o1_5],.cells [.ro (.int .i64) o2_0,.own 8,.own 9,.own 10,.int .i64 o2_4,.int .i64 o2_5],.arr (.st (.pair (.int .i64) .str)) o3,.arr (.st (.pair (.int .i64) (.int .i64))) o4,.arr (.int .i64) o5,.arr (.st (.pair (.int .i64) (.int .i64))) o6,.arr (.st (.pair (.int .i64) .str)) o7,.arr (.int .i64) o8,.arr (.st (.pair (.int .i64) (.int .i64))) o9,.arr (.st (.pair (.int .i64) .str)) o10] => some ⟨(a1,o0_2,o1_1,o1_4,o1_5,o2_0,o2_4,o2_5,o3,o4,o5,o6,o7,o8,o9,o10),rfl⟩
  | _,_ => none
def decAq25 (l : List AV) (H : List AE.Obj) : Option Aq25 := pk (decPAq25 l H)
theorem decAq25_ok (l : List AV) (H : List AE.Obj) (a : Aq25) (h : decAq25 l H = some a) : (l,H) = argsq25 a := pk_ok (o := decPAq25 l H) h
def outq25 : Aq25 → (AV → List AE.Obj → Ans) → Yq25 → Ans := fun (a1,o0_2,o1_1,o1_4,o1_5,o2_0,o2_4,o2_5,o3,o4,o5,o6,o7,o8,o9,o10) K => unP fun o4_y o11_y => K (.tup []) [.cells [.ifc 27 (.ptr 1 0),.ifc 27 (.ptr 2 0),.int .i64 o0_2,.own 11,.own 4],.cells [.own 5,.ro (.int .i64) o1_1,.own 6,.own 7,.int .i64 o1_4,.int .i64 o1_5],.cells [.ro (.int .i64) o2_0,.own 8,.own 9,.own 10,.int .i64 o2_4,.int .i64 o2_5],.arr (.st (.pair (.int .i64) .str)) o3,.arr (.st (.pair (.int .i64) (.int .i64))) o4_y,.arr (.int .i64) o5,.arr (.st (.pair (.int .i64) (.int .i64))) o6,.arr (.st (.pair (.int .i64) .str)) o7,.arr (.int .i64) o8,.arr (.st (.pair (.int .i64) (.int .i64))) o9,.arr (.st (.pair (.int .i64) .str)) o10,.arr (.st (.pair (.int .i64) .str)) o11_y]
theorem fnq25_ok (a : Aq25) (K : AV → List AE.Obj → Ans) : fnE Try.tab envq25 noHint 0 70 22 Try.f22.ntmps Try.f22.results.toList annq25 bq25 (argsq25 a).1 (argsq25 a).2 K = fnq25 a (outq25 a K) := by kernel_rfl
def vFq25 (a : Aq25) (K : AV → List AE.Obj → Ans) : Ans := bindO (fnDq25 a) fun y => outq25 a K y
def Fq25 : List AV → List AE.Obj → (AV → List AE.Obj → Ans) → Ans := fun l H K => bindO (decAq25 l H) fun a => vFq25 a K
theorem Fq25_ok : FuncOk Try.prog 22 Fq25 := func_mkD (hint := noHint) (d := 0) (n := 70) mixed tabOk envq25Ok Try.func22 (bodySome (by kernel_rfl)) (by decide +kernel) annq25_ok decAq25_ok fnq25_ok fnq25_nat
--@ law44_Tape_Flush_3
noncomputable def envq38 : Env := [(15,.func Fq45)]
theorem envq38Ok : EnvOk Try.prog envq38 := EnvOk.cons Fq45_ok (EnvOk.nil)
noncomputable def bq38 : Code := Try.f40.body.getD .skip
noncomputable def annq38 : Ann := .none
theorem annq38_ok : AnnOk Try.prog 8 bq38 annq38 := (annOk_none _ _ _)
abbrev Aq38 := (List Int) × (Int) × (Int) × (List Int) × (List (Int × Int)) × (List (Int × List UInt8))
abbrev Yq38 := (Int) × (Int) × (Int) × (Int) × (Int)
def fnq38 {β : Type} : Aq38 → (Yq38 → Option β) → Option β := fun (o0_0,o0_4,o0_5,o1,o2,o3) exit => (bindO (fnDq45 (o0_0,o0_4,o0_5,o1,o2,o3)) (unP fun r_0_0 => unP fun r_0_1 => unP fun r_1 => unP fun o0_4_2 o0_5_2 => (exit (r_0_0,r_0_1,r_1,o0_4_2,o0_5_2))))
def fnDq38 (a : Aq38) : Option Yq38 := fnq38 a some
theorem fnq38_nat (a : Aq38) (k : Yq38 → Ans) : fnq38 a k = bindO (fnDq38 a) k := by
  obtain ⟨o0_0,o0_4,o0_5,o1,o2,o3⟩ := a
  simp only [fnDq38,fnq38,bindO_cond,bindO_assoc,bindO_none,bindO_pure,bindO_elim,bindO_unP,bindO_empty]
def argsq38 : Aq38 → List AV × List AE.Obj := fun (o0_0,o0_4,o0_5,o1,o2,o3) => ([.ptr 0 0],[.cells [.ro (.int .i64) o0_0,.own 1,.own 2,.own 3,.int .i64 o0_4,.int .i64 o0_5],.arr (.int .i64) o1,.arr (.st (.pair (.int .i64) (.int .i64))) o2,.arr (.st (.pair (.int .i64) .str)) o3])
def decPAq38 (l : List AV) (H : List AE.Obj) : Option {a : Aq38 // (l,H) = argsq38 a} := match l,H with
  | [.ptr 0 0],[.cells [.ro (.int .i64) o0_0,.own 1,.own 2,.own 3,.int .i64 o0_4,.int .i64 o0_5],.arr (.int .i64) o1,.arr (.st (.pair (.int .i64) (.int .i64))) o2,.arr (.st (.pair (.int .i64) .str)) o3] => some ⟨(o0_0,o0_4,o0_5,o1,o2,o3),rfl⟩
  | _,_ => none
def decAq38 (l : List AV) (H : List AE.Obj) : Option Aq38 := pk (decPAq38 l H)
theorem decAq38_ok (l : List AV) (H : List AE.Obj) (a : Aq38) (h : decAq38 l H = some a) : (l,H) = argsq38 a := pk_ok (o := decPAq38 l H) h
def outq38 : Aq38 → (AV → List AE.Obj → Ans) → Yq38 → Ans := fun (o0_0,o0_4,o0_5,o1,o2,o3) K => unP fun r_0_0_y => unP fun r_0_1_y => unP fun r_1_y => unP fun o0_4_y o0_5_y => K (.tup [.agg [.int .i64 r_0_0_y,.int .i64 r_0_1_y],.int .i64 r_1_y]) [.cells [.ro (.int .i64) o0_0,.own 1,.own 2,.own 3,.int .i64 o0_4_y,.int .i64 o0_5_y],.arr (.int .i64) o1,.arr (.st (.pair (.int .i64) (.int .i64))) o2,.arr (.st (.pair (.int .i64) .str)) o3]
theorem fnq38_ok (a : Aq38) (K : AV → List AE.Obj → Ans) : fnE Try.tab envq38 noHint 0 70 40 Try.f40.ntmps Try.f40.results.toList annq38 bq38 (argsq38 a).1 (argsq38 a).2 K = fnq38 a (outq38 a K) := by kernel_rfl
def vFq38 (a : Aq38) (K : AV → List AE.Obj → Ans) : Ans := bindO (fnDq38 a) fun y => outq38 a K y
def Fq38 : List AV → List AE.Obj → (AV → List AE.Obj → Ans) → Ans := fun l H K => bindO (decAq38 l H) fun a => vFq38 a K
theorem Fq38_ok : FuncOk Try.prog 40 Fq38 := func_mkD (hint := noHint) (d := 0) (n := 70) mixed tabOk envq38Ok Try.func40 (bodySome (by kernel_rfl)) (by decide +kernel) annq38_ok decAq38_ok fnq38_ok fnq38_nat
--@ client_Client_Flush_4
noncomputable def envq6 : Env := [(21,.func Fq29),(40,.func (altF decAq37 vFq37 Fq38)),(22,.func Fq25)]
theorem envq6Ok : EnvOk Try.prog envq6 := EnvOk.cons Fq29_ok (EnvOk.cons (func_altF Fq37_ok Fq38_ok) (EnvOk.cons Fq25_ok (EnvOk.nil)))
noncomputable def bq6 : Code := Try.f10.body.getD .skip
noncomputable def annq6 : Ann := .none
theorem annq6_ok : AnnOk Try.prog 52 bq6 annq6 := (annOk_none _ _ _)
abbrev Aq6 := (Int) × (List Int) × (Int) × (Int) × (List Int) × (Int) × (Int) × (List (Int × List UInt8)) × (List (Int × Int)) × (List Int) × (List (Int × Int)) × (List (Int × List UInt8)) × (List Int) × (List (Int × Int)) × (List (Int × List UInt8))
abbrev Yq6 := ((Int) × (Int) × (Int) × (Int) × (Int) × (List (Int × Int))) ⊕ ((Int) × (Int) × (Int) × (Int) × (List (Int × Int)) × (List (Int × List UInt8)))
def fnq6 {β : Type} : Aq6 → (Yq6 → Option β) → Option β := fun (o0_2,o1_1,o1_4,o1_5,o2_0,o2_4,o2_5,o3,o4,o5,o6,o7,o8,o9,o10) exit => (bindO (fnDq29 (o0_2,o1_1,o1_4,o1_5,o2_0,o2_4,o2_5,o3,o4,o5,o6,o7,o8,o9,o10)) (Sum.elim (fun _ => (bindO (fnDq37 (o1_1,o1_4,o1_5,o5,o6,o7)) (unP fun r_0_0 => unP fun r_0_1 => unP fun r_1 => unP fun o0_4 o0_5 => (bif r_1 != (0 : Int) then (exit (Sum.inl (r_1,o0_4,o0_5,o2_4,o2_5,o4))) else (bif r_0_1 == (2 : Int) then (bindO (fnDq25 ((↑(List.length o3) : Int),o0_2,o1_1,o0_4,o0_5,o2_0,o2_4,o2_5,o3,o4,o5,o6,o7,o8,o9,o10)) (unP fun o4_2 o11 => (exit (Sum.inr (o0_4,o0_5,o2_4,o2_5,o4_2,o11))))) else (bif r_0_1 == (1 : Int) then (exit (Sum.inl ((0 : Int),o0_4,o0_5,o2_4,o2_5,o4))) else (bif Nat.ble ((List.length o4 + List.length [(r_0_0,(↑(List.length o3) : Int))]) * (16 : Nat)) (140737488355328 : Nat) then (exit (Sum.inl ((0 : Int),o0_4,o0_5,o2_4,o2_5,o4 ++ [(r_0_0,(↑(List.length o3) : Int))]))) else none))))))) (fun _ => (bindO (fnDq38 (o2_0,o2_4,o2_5,o8,o9,o10)) (unP fun r_0_0 => unP fun r_0_1 => unP fun r_1 => unP fun o0_4 o0_5 => (bif r_1 != (0 : Int) then (exit (Sum.inl (r_1,o1_4,o1_5,o0_4,o0_5,o4))) else (bif r_0_1 == (2 : Int) then (bindO (fnDq25 ((↑(List.length o3) : Int),o0_2,o1_1,o1_4,o1_5,o2_0,o0_4,o0_5,o3,o4,o5,o6,o7,o8,o9,o10)) (unP fun o4_2 o11 => (exit (Sum.inr (o1_4,o1_5,o0_4,o0_5,o4_2,o11))))) else (bif r_0_1 == (1 : Int) then (exit (Sum.inl ((0 : Int),o1_4,o1_5,o0_4,o0_5,o4))) else (bif Nat.ble ((List.length o4 + List.length [(r_0_0,(↑(List.length o3) : Int))]) * (16 : Nat)) (140737488355328 : Nat) then (exit (Sum.inl ((0 : Int),o1_4,o1_5,o0_4,o0_5,o4 ++ [(r_0_0,(↑(List.length o3) : Int))]))) else none)))))))))
def fnDq6 (a : Aq6) : Option Yq6 := fnq6 a some
theorem fnq6_nat (a : Aq6) (k : Yq6 → Ans) : fnq6 a k = bindO (fnDq6 a) k := by
  obtain ⟨o0_2,o1_1,o1_4,o1_5,o2_0,o2_4,o2_5,o3,o4,o5,o6,o7,o8,o9,o10⟩ := a
  simp only [fnDq6,fnq6,bindO_cond,bindO_assoc,bindO_none,bindO_pure,bindO_elim,bindO_unP,bindO_empty]
def argsq6 : Aq6 → List AV × List AE.Obj := fun (o0_2,o1_1,o1_4,o1_5,o2_0,o2_4,o2_5,o3,o4,o5,o6,o7,o8,o9,o10) => ([.ptr 0 0],[.cells [.ifc 27 (.ptr 1 0),.ifc 27 (.ptr 2 0),.int .i64 o0_2,.own 3,.own 4],.cells [.own 5,.ro (.int .i64) o1_1,.own 6,.own 7,.int .i64 o1_4,.int .i64 o1_5],.cells [.ro (.int .i64) o2_0,.own 8,.own 9,.own 10,.int .i64 o2_4,.int .i64 o2_5],.arr (.st (.pair (.int .i64) .str)) o3,.arr (.st (.pair (.int .i64) (.int .i64))) o4,.arr (.int .i64) o5,.arr (.st (.pair (.int .i64) (.int .i64))) o6,.arr (.st (.pair (.int .i64) .str)) o7,.arr (.int .i64) o8,.arr (.st (.pair (.int .i64) (.int .i64))) o9,.arr (.st (.pair (.int .i64) .str)) o10])
def decPAq6 (l : List AV) (H : List AE.Obj) : Option {a : Aq6 // (l,H) = argsq6 a} := match l,H with
  | [.ptr 0 0],[.cells [.ifc 27 (.ptr 1 0),.ifc 27 (.ptr 2 0),.int .i64 o0_2,.own 3,.own 4],.cells [.own 5,.ro (.int .i64) o1_1,.own 6,.own 7,.int .i64 o1_4,.int .i64 o1_5],.cells [.ro (.int .i64) o2_0,.own 8,.own 9,.own 10,.int .i64 o2_4,.int .i64 o2_5],.arr (.st (.pair (.int .i64) .str)) o3,.arr (.st (.pair (.int .i64) (.int .i64))) o4,.arr (.int .i64) o5,.arr (.st (.pair (.int .i64) (.int .i64))) o6,.arr (.st (.pair (.int .i64) .str)) o7,.arr (.int .i64) o8,.arr (.st (.pair (.int .i64) (.int .i64))) o9,.arr (.st (.pair (.int .i64) .str)) o10] => some ⟨(o0_2,o1_1,o1_4,o1_5,o2_0,o2_4,o2_5,o3,o4,o5,o6,o7,o8,o9,o10),rfl⟩
  | _,_ => none
def decAq6 (l : List AV) (H : List AE.Obj) : Option Aq6 := pk (decPAq6 l H)
theorem decAq6_ok (l : List AV) (H : List AE.Obj) (a : Aq6) (h : decAq6 l H = some a) : (l,H) = argsq6 a := pk_ok (o := decPAq6 l H) h
def outq6 : Aq6 → (AV → List AE.Obj → Ans) → Yq6 → Ans := fun (o0_2,o1_1,o1_4,o1_5,o2_0,o2_4,o2_5,o3,o4,o5,o6,o7,o8,o9,o10) K => (Sum.elim (unP fun r_1_y => unP fun o1_4_y => unP fun o1_5_y => unP fun o2_4_y => unP fun o2_5_y o4_y => K (.tup [.bool (false),.int .i64 r_1_y]) [.cells [.ifc 27 (.ptr 1 0),.ifc 27 (.ptr 2 0),.int .i64 o0_2,.own 3,.own 4],.cells [.own 5,.ro (.int .i64) o1_1,.own 6,.own 7,.int .i64 o1_4_y,.int .i64 o1_5_y],.cells [.ro (.int .i64) o2_0,.own 8,.own 9,.own 10,.int .i64 o2_4_y,.int .i64 o2_5_y],.arr (.st (.pair (.int .i64) .str)) o3,.arr (.st (.pair (.int .i64) (.int .i64))) o4_y,.arr (.int .i64) o5,.arr (.st (.pair (.int .i64) (.int .i64))) o6,.arr (.st (.pair (.int .i64) .str)) o7,.arr (.int .i64) o8,.arr (.st (.pair (.int .i64) (.int .i64))) o9,.arr (.st (.pair (.int .i64) .str)) o10]) (unP fun o1_4_y => unP fun o1_5_y => unP fun o2_4_y => unP fun o2_5_y => unP fun o4_y o11_y => K (.tup [.bool (true),.int .i64 (0)]) [.cells [.ifc 27 (.ptr 1 0),.ifc 27 (.ptr 2 0),.int .i64 o0_2,.own 11,.own 12],.cells [.own 5,.ro (.int .i64) o1_1,.own 6,.own 7,.int .i64 o1_4_y,.int .i64 o1_5_y],.cells [.ro (.int .i64) o2_0,.own 8,.own 9,.own 10,.int .i64 o2_4_y,.int .i64 o2_5_y],.arr (.st (.pair (.int .i64) .str)) o3,.arr (.st (.pair (.int .i64) (.int .i64))) o4_y,.arr (.int .i64) o5,.arr (.st (.pair (.int .i64) (.int .i64))) o6,.arr (.st (.pair (.int .i64) .str)) o7,.arr (.int .i64) o8,.arr (.st (.pair (.int .i64) (.int .i64))) o9,.arr (.st (.pair (.int .i64) .str)) o10,.arr (.st (.pair (.int .i64) .str)) o11_y,.arr (.st (.pair (.int .i64) (.int .i64))) ([])]))
theorem fnq6_ok (a : Aq6) (K : AV → List AE.Obj → Ans) : fnE Try.tab envq6 noHint 0 70 10 Try.f10.ntmps Try.f10.results.toList annq6 bq6 (argsq6 a).1 (argsq6 a).2 K = fnq6 a (outq6 a K) := by kernel_rfl
def vFq6 (a : Aq6) (K : AV → List AE.Obj → Ans) : Ans := bindO (fnDq6 a) fun y => outq6 a K y
def Fq6 : List AV → List AE.Obj → (AV → List AE.Obj → Ans) → Ans := fun l H K => bindO (decAq6 l H) fun a => vFq6 a K
theorem Fq6_ok : FuncOk Try.prog 10 Fq6 := func_mkD (hint := noHint) (d := 0) (n := 70) mixed tabOk envq6Ok Try.func10 (bodySome (by kernel_rfl)) (by decide +kernel) annq6_ok decAq6_ok fnq6_ok fnq6_nat
--@ client_Client_Kept_4
noncomputable def envq10 : Env := []
theorem envq10Ok : EnvOk Try.prog envq10 := EnvOk.nil
noncomputable def bq10 : Code := Try.f11.body.getD .skip
noncomputable def annq10 : Ann := .none
theorem annq10_ok : AnnOk Try.prog 19 bq10 annq10 := (annOk_none _ _ _)
abbrev Aq10 := (Int) × (List Int) × (Int) × (Int) × (List Int) × (Int) × (Int) × (List (Int × List UInt8)) × (List (Int × Int)) × (List Int) × (List (Int × Int)) × (List (Int × List UInt8)) × (List Int) × (List (Int × Int)) × (List (Int × List UInt8))
abbrev Yq10 := (List (Int × List UInt8))
def fnq10 {β : Type} : Aq10 → (Yq10 → Option β) → Option β := fun (o0_2,o1_1,o1_4,o1_5,o2_0,o2_4,o2_5,o3,o4,o5,o6,o7,o8,o9,o10) exit => (bif decide ((0 : Int) ≤ (↑(List.length o3) : Int)) && decide ((↑(List.length o3) : Int) ≤ (↑(List.length o3) : Int)) && decide ((24 : Int) * (↑(List.length o3) : Int) ≤ (281474976710656 : Int)) && decide ((↑(List.length o3) : Int) ≤ (9223372036854775807 : Int)) then (exit (List.take (List.length (List.replicate (Int.toNat (↑(List.length o3) : Int)) ((0 : Int),nilL UInt8))) o3 ++ List.drop (List.length o3) (List.replicate (Int.toNat (↑(List.length o3) : Int)) ((0 : Int),nilL UInt8)))) else none)
def fnDq10 (a : Aq10) : Option Yq10 := fnq10 a some
theorem fnq10_nat (a : Aq10) (k : Yq10 → Ans) : fnq10 a k = bindO (fnDq10 a) k := by
  obtain ⟨o0_2,o1_1,o1_4,o1_5,o2_0,o2_4,o2_5,o3,o4,o5,o6,o7,o8,o9,o10⟩ := a
  simp only [fnDq10,fnq10,bindO_cond,bindO_assoc,bindO_none,bindO_pure,bindO_elim,bindO_unP,bindO_empty]
def argsq10 : Aq10 → List AV × List AE.Obj := fun (o0_2,o1_1,o1_4,o1_5,o2_0,o2_4,o2_5,o3,o4,o5,o6,o7,o8,o9,o10) => ([.ptr 0 0],[.cells [.ifc 27 (.ptr 1 0),.ifc 27 (.ptr 2 0),.int .i64 o0_2,.own 3,.own 4],.cells [.own 5,.ro (.int .i64) o1_1,.own 6,.own 7,.int .i64 o1_4,.int .i64 o1_5],.cells [.ro (.int .i64) o2_0,.own 8,.own 9,.own 10,.int .i64 o2_4,.int .i64 o2_5],.arr (.st (.pair (.int .i64) .str)) o3,.arr (.st (.pair (.int .i64) (.int .i64))) o4,.arr (.int .i64) o5,.arr (.st (.pair (.int .i64) (.int .i64))) o6,.arr (.st (.pair (.int .i64) .str)) o7,.arr (.int .i64) o8,.arr (.st (.pair (.int .i64) (.int .i64))) o9,.arr (.st (.pair (.int .i64) .str)) o10])
def decPAq10 (l : List AV) (H : List AE.Obj) : Option {a : Aq10 // (l,H) = argsq10 a} := match l,H with
  | [.ptr 0 0],[.cells [.ifc 27 (.ptr 1 0),.ifc 27 (.ptr 2 0),.int .i64 o0_2,.own 3,.own 4],.cells [.own 5,.ro (.int .i64) o1_1,.own 6,.own 7,.int .i64 o1_4,.int .i64 o1_5],.cells [.ro (.int .i64) o2_0,.own 8,.own 9,.own 10,.int .i64 o2_4,.int .i64 o2_5],.arr (.st (.pair (.int .i64) .str)) o3,.arr (.st (.pair (.int .i64) (.int .i64))) o4,.arr (.int .i64) o5,.arr (.st (.pair (.int .i64) (.int .i64))) o6,.arr (.st (.pair (.int .i64) .str)) o7,.arr (.int .i64) o8,.arr (.st (.pair (.int .i64) (.int .i64))) o9,.arr (.st (.pair (.int .i64) .str)) o10] => some ⟨(o0_2,o1_1,o1_4,o1_5,o2_0,o2_4,o2_5,o3,o4,o5,o6,o7,o8,o9,o10),rfl⟩
  | _,_ => none
def decAq10 (l : List AV) (H : List AE.Obj) : Option Aq10 := pk (decPAq10 l H)
theorem decAq10_ok (l : List AV) (H : List AE.Obj) (a : Aq10) (h : decAq10 l H = some a) : (l,H) = argsq10 a := pk_ok (o := decPAq10 l H) h
def outq10 : Aq10 → (AV → List AE.Obj → Ans) → Yq10 → Ans := fun (o0_2,o1_1,o1_4,o1_5,o2_0,o2_4,o2_5,o3,o4,o5,o6,o7,o8,o9,o10) K => fun o11_y => K (.own 11) [.cells [.ifc 27 (.ptr 1 0),.ifc 27 (.ptr 2 0),.int .i64 o0_2,.own 3,.own 4],.cells [.own 5,.ro (.int .i64) o1_1,.own 6,.own 7,.int .i64 o1_4,.int .i64 o1_5],.cells [.ro (.int .i64) o2_0,.own 8,.own 9,.own 10,.int .i64 o2_4,.int .i64 o2_5],.arr (.st (.pair (.int .i64) .str)) o3,.arr (.st (.pair (.int .i64) (.int .i64))) o4,.arr (.int .i64) o5,.arr (.st (.pair (.int .i64) (.int .i64))) o6,.arr (.st (.pair (.int .i64) .str)) o7,.arr (.int .i64) o8,.arr (.st (.pair (.int .i64) (.int .i64))) o9,.arr (.st (.pair (.int .i64) .str)) o10,.arr (.st (.pair (.int .i64) .str)) o11_y]
theorem fnq10_ok (a : Aq10) (K : AV → List AE.Obj → Ans) : fnE Try.tab envq10 noHint 0 70 11 Try.f11.ntmps Try.f11.results.toList annq10 bq10 (argsq10 a).1 (argsq10 a).2 K = fnq10 a (outq10 a K) := by kernel_rfl
def vFq10 (a : Aq10) (K : AV → List AE.Obj → Ans) : Ans := bindO (fnDq10 a) fun y => outq10 a K y
def Fq10 : List AV → List AE.Obj → (AV → List AE.Obj → Ans) → Ans := fun l H K => bindO (decAq10 l H) fun a => vFq10 a K
theorem Fq10_ok : FuncOk Try.prog 11 Fq10 := func_mkD (hint := noHint) (d := 0) (n := 70) mixed tabOk envq10Ok Try.func11 (bodySome (by kernel_rfl)) (by decide +kernel) annq10_ok decAq10_ok fnq10_ok fnq10_nat
--@ client_Client_Over_4
noncomputable def envq14 : Env := [(21,.func Fq29),(42,.func (altF decAq41 vFq41 Fq42))]
theorem envq14Ok : EnvOk Try.prog envq14 := EnvOk.cons Fq29_ok (EnvOk.cons (func_altF Fq41_ok Fq42_ok) (EnvOk.nil))
noncomputable def bq14 : Code := Try.f12.body.getD .skip
noncomputable def Lq14_n0 : Code := codeAt [1,1,1,1,1,1,0,1,0,0] bq14
noncomputable def annLq14_n0 : Ann := .at 100011 [3,28,29,30] (.loop .none)
theorem annLq14_n0_ok : AnnOk Try.prog 47 (.loop Lq14_n0) annLq14_n0 := annOk_at (annOk_none _ _ _)
abbrev Iq14_n0 := (Int) × (Int) × (List Int) × (List Int) × (Int) × (Int) × (List (Int × List UInt8)) × (List Int) × (List (Int × Int)) × (List Int) × (List (Int × Int)) × (List (Int × List UInt8))
abbrev Yq14_n0 := ((Int) × (Int) × (Int) × (List (Int × List UInt8))) ⊕ ((Int) × (Int) × (List (Int × List UInt8)))
abbrev Vq14_n0 := (Int) × (Int) × (Int) × (List (Int × List UInt8))
def Sq14_n0 : Iq14_n0 → Vq14_n0 → St := fun (t29,o0_2,o1_1,o2_0,o2_4,o2_5,o11,o13,o14,o16,o17,o18) (t30,o1_4,o1_5,o15) => { env := [(3,.ifc 27 (.ptr 1 0)),(28,.own 11),(29,.int .i64 t29),(30,.int .i64 t30)],stk := [[(0,.ptr 0 0),(1,.ptr 1 0),(2,.ptr 2 0)]],H := [.cells [.ifc 27 (.ptr 1 0),.ifc 27 (.ptr 2 0),.int .i64 o0_2,.own 11,.own 12],.cells [.own 13,.ro (.int .i64) o1_1,.own 14,.own 15,.int .i64 o1_4,.int .i64 o1_5],.cells [.ro (.int .i64) o2_0,.own 16,.own 17,.own 18,.int .i64 o2_4,.int .i64 o2_5],.dead,.dead,.dead,.dead,.dead,.dead,.dead,.dead,.arr (.st (.pair (.int .i64) .str)) o11,.arr (.st (.pair (.int .i64) (.int .i64))) ([]),.arr (.int .i64) o13,.arr (.st (.pair (.int .i64) (.int .i64))) o14,.arr (.st (.pair (.int .i64) .str)) o15,.arr (.int .i64) o16,.arr (.st (.pair (.int .i64) (.int .i64))) o17,.arr (.st (.pair (.int .i64) .str)) o18],blk := 49152 }
def decPq14_n0 (s : St) : Option {x : Iq14_n0 × Vq14_n0 // s = Sq14_n0 x.1 x.2} := match s with
  | { env := [(3,.ifc 27 (.ptr 1 0)),(28,.own 11),(29,.int .i64 t29),(30,.int .i64 t30)],stk := [[(0,.ptr 0 0),(1,.ptr 1 0),(2,.ptr 2 0)]],H := [.cells [.ifc 27 (.ptr 1 0),.ifc 27 (.ptr 2 0),.int .i64 o0_2,.own 11,.own 12],.cells [.own 13,.ro (.int .i64) o1_1,.own 14,.own 15,.int .i64 o1_4,.int .i64 o1_5],.cells [.ro (.int .i64) o2_0,.own 16,.own 17,.own 18,.int .i64 o2_4,.int .i64 o2_5],.dead,.dead,.dead,.dead,.dead,.dead,.dead,.dead,.arr (.st (.pair (.int .i64) .str)) o11,.arr (.st (.pair (.int .i64) (.int .i64))) r10,.arr (.int .i64) o13,.arr (.st (.pair (.int .i64) (.int .i64))) o14,.arr (.st (.pair (.int .i64) .str)) o15,.arr (.int .i64) o16,.arr (.st (.pair (.int .i64) (.int .i64))) o17,.arr (.st (.pair (.int .i64) .str)) o18],blk := 49152 } => if h10 : r10 = [] then some ⟨((t29,o0_2,o1_1,o2_0,o2_4,o2_5,o11,o13,o14,o16,o17,o18),(t30,o1_4,o1_5,o15)),by subst h10; rfl⟩ else none
  | _ => none
def decq14_n0 (s : St) : Option (Iq14_n0 × Vq14_n0) := pk (decPq14_n0 s)
theorem decq14_n0_ok (s : St) (x : Iq14_n0 × Vq14_n0) (h : decq14_n0 s = some x) : s = Sq14_n0 x.1 x.2 := pk_ok (o := decPq14_n0 s) h
def outq14_n0 : Iq14_n0 → (Ex → St → Ans) → Yq14_n0 → Ans := fun (t29,o0_2,o1_1,o2_0,o2_4,o2_5,o11,o13,o14,o16,o17,o18) K => (Sum.elim (unP fun t2_y => unP fun o1_4_y => unP fun o1_5_y o15_y => K (Ex.ret) { env := [(2,.int .i64 t2_y)],stk := [[(0,.ptr 0 0),(1,.ptr 1 0),(2,.ptr 2 0)]],H := [.cells [.ifc 27 (.ptr 1 0),.ifc 27 (.ptr 2 0),.int .i64 o0_2,.own 11,.own 12],.cells [.own 13,.ro (.int .i64) o1_1,.own 14,.own 15,.int .i64 o1_4_y,.int .i64 o1_5_y],.cells [.ro (.int .i64) o2_0,.own 16,.own 17,.own 18,.int .i64 o2_4,.int .i64 o2_5],.dead,.dead,.dead,.dead,.dead,.dead,.dead,.dead,.arr (.st (.pair (.int .i64) .str)) o11,.arr (.st (.pair (.int .i64) (.int .i64))) ([]),.arr (.int .i64) o13,.arr (.st (.pair (.int .i64) (.int .i64))) o14,.arr (.st (.pair (.int .i64) .str)) o15_y,.arr (.int .i64) o16,.arr (.st (.pair (.int .i64) (.int .i64))) o17,.arr (.st (.pair (.int .i64) .str)) o18],blk := 49153 }) (unP fun o1_4_y => unP fun o1_5_y o15_y => K (Ex.exit 0) { env := [],stk := [[(0,.ptr 0 0),(1,.ptr 1 0),(2,.ptr 2 0)]],H := [.cells [.ifc 27 (.ptr 1 0),.ifc 27 (.ptr 2 0),.int .i64 o0_2,.own 11,.own 12],.cells [.own 13,.ro (.int .i64) o1_1,.own 14,.own 15,.int .i64 o1_4_y,.int .i64 o1_5_y],.cells [.ro (.int .i64) o2_0,.own 16,.own 17,.own 18,.int .i64 o2_4,.int .i64 o2_5],.dead,.dead,.dead,.dead,.dead,.dead,.dead,.dead,.arr (.st (.pair (.int .i64) .str)) o11,.arr (.st (.pair (.int .i64) (.int .i64))) ([]),.arr (.int .i64) o13,.arr (.st (.pair (.int .i64) (.int .i64))) o14,.arr (.st (.pair (.int .i64) .str)) o15_y,.arr (.int .i64) o16,.arr (.st (.pair (.int .i64) (.int .i64))) o17,.arr (.st (.pair (.int .i64) .str)) o18],blk := 49152 }))
def stepq14_n0 {β : Type} : Iq14_n0 → Vq14_n0 → (Vq14_n0 → Option β) → (Yq14_n0 → Option β) → Option β := fun (t29,o0_2,o1_1,o2_0,o2_4,o2_5,o11,o13,o14,o16,o17,o18) (t30,o1_4,o1_5,o15) next exit => (bif decide (t30 < t29) then (bif inR t30 (List.length o11) then (bindO (o11[Int.toNat t30]?) fun x => (bindO (fnDq41 (x.fst,x.snd,o1_1,o1_4,o1_5,o13,o14,o15)) (Sum.elim (unP fun r_0_0 => unP fun r_0_1 => unP fun r_1 => unP fun o0_4 => unP fun o0_5 o4 => (bif r_1 != (0 : Int) then (exit (Sum.inl (r_1,o0_4,o0_5,o4))) else (next (IntKind.wrap .i64 (t30 + (1 : Int)),o0_4,o0_5,o4)))) (unP fun r_0_0 => unP fun r_0_1 => unP fun r_1 => unP fun o0_4 o0_5 => (bif r_1 != (0 : Int) then (exit (Sum.inl (r_1,o0_4,o0_5,o15))) else (next (IntKind.wrap .i64 (t30 + (1 : Int)),o0_4,o0_5,o15))))))) else none) else (exit (Sum.inr (o1_4,o1_5,o15))))
def stepDq14_n0 (i : Iq14_n0) (v : Vq14_n0) : Option (Vq14_n0 ⊕ Yq14_n0) := stepq14_n0 i v (fun v => some (.inl v)) (fun y => some (.inr y))
theorem stepq14_n0_nat (i : Iq14_n0) (v : Vq14_n0) (next : Vq14_n0 → Ans) (exit : Yq14_n0 → Ans) : stepq14_n0 i v next exit = bindO (stepDq14_n0 i v) (Sum.elim next exit) := by
  obtain ⟨t29,o0_2,o1_1,o2_0,o2_4,o2_5,o11,o13,o14,o16,o17,o18⟩ := i
  obtain ⟨t30,o1_4,o1_5,o15⟩ := v
  simp only [stepDq14_n0,stepq14_n0,bindO_cond,bindO_assoc,bindO_none,bindO_pure,bindO_elim,bindO_unP,bindO_empty,Sum.elim_inl,Sum.elim_inr]
theorem stepq14_n0_ok (n : Nat) (i : Iq14_n0) (v : Vq14_n0) (K : Ex → St → Ans) : codeI Try.tab envq14 noHint (codeD Try.tab envq14 noHint 0 64) (n+1) 47 annLq14_n0 (.loop Lq14_n0) (weakP 100011 (exk [] [2] [(0,[])]) K) (Sq14_n0 i v) = stepq14_n0 i v (fun v' => codeI Try.tab envq14 noHint (codeD Try.tab envq14 noHint 0 64) n 47 annLq14_n0 (.loop Lq14_n0) (weakP 100011 (exk [] [2] [(0,[])]) K) (Sq14_n0 i v')) (fun y => outq14_n0 i K y) := by kernel_rfl
theorem GNq14_n0_ok : CSum Try.prog 47 (.loop Lq14_n0) (sumL decq14_n0 stepDq14_n0 outq14_n0) := csum_loop mixed tabOk envq14Ok 100011 (exk [] [2] [(0,[])]) annLq14_n0_ok decq14_n0_ok stepq14_n0_ok stepq14_n0_nat
abbrev Iq14_n0v1 := (Int) × (Int) × (List Int) × (Int) × (Int) × (List Int) × (List (Int × List UInt8)) × (List Int) × (List (Int × Int)) × (List (Int × List UInt8)) × (List Int) × (List (Int × Int))
abbrev Yq14_n0v1 := ((Int) × (Int) × (Int) × (List (Int × List UInt8))) ⊕ ((Int) × (Int) × (List (Int × List UInt8)))
abbrev Vq14_n0v1 := (Int) × (Int) × (Int) × (List (Int × List UInt8))
def Sq14_n0v1 : Iq14_n0v1 → Vq14_n0v1 → St := fun (t29,o0_2,o1_1,o1_4,o1_5,o2_0,o11,o13,o14,o15,o16,o17) (t30,o2_4,o2_5,o18) => { env := [(3,.ifc 27 (.ptr 2 0)),(28,.own 11),(29,.int .i64 t29),(30,.int .i64 t30)],stk := [[(0,.ptr 0 0),(1,.ptr 1 0),(2,.ptr 2 0)]],H := [.cells [.ifc 27 (.ptr 1 0),.ifc 27 (.ptr 2 0),.int .i64 o0_2,.own 11,.own 12],.cells [.own 13,.ro (.int .i64) o1_1,.own 14,.own 15,.int .i64 o1_4,.int .i64 o1_5],.cells [.ro (.int .i64) o2_0,.own 16,.own 17,.own 18,.int .i64 o2_4,.int .i64 o2_5],.dead,.dead,.dead,.dead,.dead,.dead,.dead,.dead,.arr (.st (.pair (.int .i64) .str)) o11,.arr (.st (.pair (.int .i64) (.int .i64))) ([]),.arr (.int .i64) o13,.arr (.st (.pair (.int .i64) (.int .i64))) o14,.arr (.st (.pair (.int .i64) .str)) o15,.arr (.int .i64) o16,.arr (.st (.pair (.int .i64) (.int .i64))) o17,.arr (.st (.pair (.int .i64) .str)) o18],blk := 49152 }
def decPq14_n0v1 (s : St) : Option {x : Iq14_n0v1 × Vq14_n0v1 // s = Sq14_n0v1 x.1 x.2} := match s with
  | { env := [(3,.ifc 27 (.ptr 2 0)),(28,.own 11),(29,.int .i64 t29),(30,.int .i64 t30)],stk := [[(0,.ptr 0 0),(1,.ptr 1 0),(2,.ptr 2 0)]],H := [.cells [.ifc 27 (.ptr 1 0),.ifc 27 (.ptr 2 0),.int .i64 o0_2,.own 11,.own 12],.cells [.own 13,.ro (.int .i64) o1_1,.own 14,.own 15,.int .i64 o1_4,.int .i64 o1_5],.cells [.ro (.int .i64) o2_0,.own 16,.own 17,.own 18,.int .i64 o2_4,.int .i64 o2_5],.dead,.dead,.dead,.dead,.dead,.dead,.dead,.dead,.arr (.st (.pair (.int .i64) .str)) o11,.arr (.st (.pair (.int .i64) (.int .i64))) r10,.arr (.int .i64) o13,.arr (.st (.pair (.int .i64) (.int .i64))) o14,.arr (.st (.pair (.int .i64) .str)) o15,.arr (.int .i64) o16,.arr (.st (.pair (.int .i64) (.int .i64))) o17,.arr (.st (.pair (.int .i64) .str)) o18],blk := 49152 } => if h10 : r10 = [] then some ⟨((t29,o0_2,o1_1,o1_4,o1_5,o2_0,o11,o13,o14,o15,o16,o17),(t30,o2_4,o2_5,o18)),by subst h10; rfl⟩ else none
  | _ => none
def decq14_n0v1 (s : St) : Option (Iq14_n0v1 × Vq14_n0v1) := pk (decPq14_n0v1 s)
theorem decq14_n0v1_ok (s : St) (x : Iq14_n0v1 × Vq14_n0v1) (h : decq14_n0v1 s = some x) : s = Sq14_n0v1 x.1 x.2 := pk_ok (o := decPq14_n0v1 s) h
def outq14_n0v1 : Iq14_n0v1 → (Ex → St → Ans) → Yq14_n0v1 → Ans := fun (t29,o0_2,o1_1,o1_4,o1_5,o2_0,o11,o13,o14,o15,o16,o17) K => (Sum.elim (unP fun t2_y => unP fun o2_4_y => unP fun o2_5_y o18_y => K (Ex.ret) { env := [(2,.int .i64 t2_y)],stk := [[(0,.ptr 0 0),(1,.ptr 1 0),(2,.ptr 2 0)]],H := [.cells [.ifc 27 (.ptr 1 0),.ifc 27 (.ptr 2 0),.int .i64 o0_2,.own 11,.own 12],.cells [.own 13,.ro (.int .i64) o1_1,.own 14,.own 15,.int .i64 o1_4,.int .i64 o1_5],.cells [.ro (.int .i64) o2_0,.own 16,.own 17,.own 18,.int .i64 o2_4_y,.int .i64 o2_5_y],.dead,.dead,.dead,.dead,.dead,.dead,.dead,.dead,.arr (.st (.pair (.int .i64) .str)) o11,.arr (.st (.pair (.int .i64) (.int .i64))) ([]),.arr (.int .i64) o13,.arr (.st (.pair (.int .i64) (.int .i64))) o14,.arr (.st (.pair (.int .i64) .str)) o15,.arr (.int .i64) o16,.arr (.st (.pair (.int .i64) (.int .i64))) o17,.arr (.st (.pair (.int .i64) .str)) o18_y],blk := 49153 }) (unP fun o2_4_y => unP fun o2_5_y o18_y => K (Ex.exit 0) { env := [],stk := [[(0,.ptr 0 0),(1,.ptr 1 0),(2,.ptr 2 0)]],H := [.cells [.ifc 27 (.ptr 1 0),.ifc 27 (.ptr 2 0),.int .i64 o0_2,.own 11,.own 12],.cells [.own 13,.ro (.int .i64) o1_1,.own 14,.own 15,.int .i64 o1_4,.int .i64 o1_5],.cells [.ro (.int .i64) o2_0,.own 16,.own 17,.own 18,.int .i64 o2_4_y,.int .i64 o2_5_y],.dead,.dead,.dead,.dead,.dead,.dead,.dead,.dead,.arr (.st (.pair (.int .i64) .str)) o11,.arr (.st (.pair (.int .i64) (.int .i64))) ([]),.arr (.int .i64) o13,.arr (.st (.pair (.int .i64) (.int .i64))) o14,.arr (.st (.pair (.int .i64) .str)) o15,.arr (.int .i64) o16,.arr (.st (.pair (.int .i64) (.int .i64))) o17,.arr (.st (.pair (.int .i64) .str)) o18_y],blk := 49152 }))
def stepq14_n0v1 {β : Type} : Iq14_n0v1 → Vq14_n0v1 → (Vq14_n0v1 → Option β) → (Yq14_n0v1 → Option β) → Option β := fun (t29,o0_2,o1_1,o1_4,o1_5,o2_0,o11,o13,o14,o15,o16,o17) (t30,o2_4,o2_5,o18) next exit => (bif decide (t30 < t29) then (bif inR t30 (List.length o11) then (bindO (o11[Int.toNat t30]?) fun x => (bindO (fnDq42 (x.fst,x.snd,o2_0,o2_4,o2_5,o16,o17,o18)) (Sum.elim (unP fun r_0_0 => unP fun r_0_1 => unP fun r_1 => unP fun o0_4 => unP fun o0_5 o4 => (bif r_1 != (0 : Int) then (exit (Sum.inl (r_1,o0_4,o0_5,o4))) else (next (IntKind.wrap .i64 (t30 + (1 : Int)),o0_4,o0_5,o4)))) (unP fun r_0_0 => unP fun r_0_1 => unP fun r_1 => unP fun o0_4 o0_5 => (bif r_1 != (0 : Int) then (exit (Sum.inl (r_1,o0_4,o0_5,o18))) else (next (IntKind.wrap .i64 (t30 + (1 : Int)),o0_4,o0_5,o18))))))) else none) else (exit (Sum.inr (o2_4,o2_5,o18))))
def stepDq14_n0v1 (i : Iq14_n0v1) (v : Vq14_n0v1) : Option (Vq14_n0v1 ⊕ Yq14_n0v1) := stepq14_n0v1 i v (fun v => some (.inl v)) (fun y => some (.inr y))
theorem stepq14_n0v1_nat (i : Iq14_n0v1) (v : Vq14_n0v1) (next : Vq14_n0v1 → Ans) (exit : Yq14_n0v1 → Ans) : stepq14_n0v1 i v next exit = bindO (stepDq14_n0v1 i v) (Sum.elim next exit) := by
  obtain ⟨t29,o0_2,o1_1,o1_4,o1_5,o2_0,o11,o13,o14,o15,o16,o17⟩ := i
  obtain ⟨t30,o2_4,o2_5,o18⟩ := v
  simp only [stepDq14_n0v1,stepq14_n0v1,bindO_cond,bindO_assoc,bindO_none,bindO_pure,bindO_elim,bindO_unP,bindO_empty,Sum.elim_inl,Sum.elim_inr]
theorem stepq14_n0v1_ok (n : Nat) (i : Iq14_n0v1) (v : Vq14_n0v1) (K : Ex → St → Ans) : codeI Try.tab envq14 noHint (codeD Try.tab envq14 noHint 0 64) (n+1) 47 annLq14_n0 (.loop Lq14_n0) (weakP 100011 (exk [] [2] [(0,[])]) K) (Sq14_n0v1 i v) = stepq14_n0v1 i v (fun v' => codeI Try.tab envq14 noHint (codeD Try.tab envq14 noHint 0 64) n 47 annLq14_n0 (.loop Lq14_n0) (weakP 100011 (exk [] [2] [(0,[])]) K) (Sq14_n0v1 i v')) (fun y => outq14_n0v1 i K y) := by kernel_rfl
theorem GNq14_n0v1_ok : CSum Try.prog 47 (.loop Lq14_n0) (sumL decq14_n0v1 stepDq14_n0v1 outq14_n0v1) := csum_loop mixed tabOk envq14Ok 100011 (exk [] [2] [(0,[])]) annLq14_n0_ok decq14_n0v1_ok stepq14_n0v1_ok stepq14_n0v1_nat
noncomputable def Gq14_n0 : (Ex → St → Ans) → St → Ans := (altN decq14_n0 (sumL decq14_n0 stepDq14_n0 outq14_n0) (sumL decq14_n0v1 stepDq14_n0v1 outq14_n0v1))
theorem Gq14_n0_ok : CSum Try.prog 47 (.loop Lq14_n0) Gq14_n0 := (csum_altN GNq14_n0_ok GNq14_n0v1_ok)
noncomputable def annq14 : Ann := (.seq .none (.seq .none (.seq .none (.seq .none (.seq .none (.seq .none (.seq (.seq .none (.block (.cut 100011 [3,28,29,30] Gq14_n0))) .none)))))))
theorem annq14_ok : AnnOk Try.prog 47 bq14 annq14 := ⟨(annOk_none _ _ _),⟨(annOk_none _ _ _),⟨(annOk_none _ _ _),⟨(annOk_none _ _ _),⟨(annOk_none _ _ _),⟨(annOk_none _ _ _),⟨⟨(annOk_none _ _ _),Gq14_n0_ok⟩,(annOk_none _ _ _)⟩⟩⟩⟩⟩⟩⟩
abbrev Aq14 := (Int) × (List Int) × (Int) × (Int) × (List Int) × (Int) × (Int) × (List (Int × List UInt8)) × (List (Int × Int)) × (List Int) × (List (Int × Int)) × (List (Int × List UInt8)) × (List Int) × (List (Int × Int)) × (List (Int × List UInt8))
abbrev Yq14 := (Int) × (Int) × (Int) × (Int) × (Int) × (Int) × (List (Int × List UInt8)) × (List (Int × List UInt8))
def fnq14 {β : Type} : Aq14 → (Yq14 → Option β) → Option β := fun (o0_2,o1_1,o1_4,o1_5,o2_0,o2_4,o2_5,o3,o4,o5,o6,o7,o8,o9,o10) exit => (bindO (fnDq29 (IntKind.wrap .i64 ((1 : Int) - o0_2),o1_1,o1_4,o1_5,o2_0,o2_4,o2_5,o3,[],o5,o6,o7,o8,o9,o10)) (Sum.elim (fun _ => (bindO (loopD (stepDq14_n0 ((↑(List.length o3) : Int),IntKind.wrap .i64 ((1 : Int) - o0_2),o1_1,o2_0,o2_4,o2_5,o3,o5,o6,o8,o9,o10)) FUEL ((0 : Int),o1_4,o1_5,o7)) (Sum.elim (unP fun t2 => unP fun o1_4_2 => unP fun o1_5_2 o15 => (exit (t2,IntKind.wrap .i64 ((1 : Int) - o0_2),o1_4_2,o1_5_2,o2_4,o2_5,o15,o10))) (unP fun o1_4_2 => unP fun o1_5_2 o15 => (exit ((0 : Int),IntKind.wrap .i64 ((1 : Int) - o0_2),o1_4_2,o1_5_2,o2_4,o2_5,o15,o10)))))) (fun _ => (bindO (loopD (stepDq14_n0v1 ((↑(List.length o3) : Int),IntKind.wrap .i64 ((1 : Int) - o0_2),o1_1,o1_4,o1_5,o2_0,o3,o5,o6,o7,o8,o9)) FUEL ((0 : Int),o2_4,o2_5,o10)) (Sum.elim (unP fun t2 => unP fun o2_4_2 => unP fun o2_5_2 o18 => (exit (t2,IntKind.wrap .i64 ((1 : Int) - o0_2),o1_4,o1_5,o2_4_2,o2_5_2,o7,o18))) (unP fun o2_4_2 => unP fun o2_5_2 o18 => (exit ((0 : Int),IntKind.wrap .i64 ((1 : Int) - o0_2),o1_4,o1_5,o2_4_2,o2_5_2,o7,o18))))))))
def fnDq14 (a : Aq14) : Option Yq14 := fnq14 a some
theorem fnq14_nat (a : Aq14) (k : Yq14 → Ans) : fnq14 a k = bindO (fnDq14 a) k := by
  obtain ⟨o0_2,o1_1,o1_4,o1_5,o2_0,o2_4,o2_5,o3,o4,o5,o6,o7,o8,o9,o10⟩ := a
  simp only [fnDq14,fnq14,bindO_cond,bindO_assoc,bindO_none,bindO_pure,bindO_elim,bindO_unP,bindO_empty]
def argsq14 : Aq14 → List AV × List AE.Obj := fun (o0_2,o1_1,o1_4,o1_5,o2_0,o2_4,o2_5,o3,o4,o5,o6,o7,o8,o9,o10) => ([.ptr 0 0],[.cells [.ifc 27 (.ptr 1 0),.ifc 27 (.ptr 2 0),.int .i64 o0_2,.own 3,.own 4],.cells [.own 5,.ro (.int .i64) o1_1,.own 6,.own 7,.int .i64 o1_4,.int .i64 o1_5],.cells [.ro (.int .i64) o2_0,.own 8,.own 9,.own 10,.int .i64 o2_4,.int .i64 o2_5],.arr (.st (.pair (.int .i64) .str)) o3,.arr (.st (.pair (.int .i64) (.int .i64))) o4,.arr (.int .i64) o5,.arr (.st (.pair (.int .i64) (.int .i64))) o6,.arr (.st (.pair (.int .i64) .str)) o7,.arr (.int .i64) o8,.arr (.st (.pair (.int .i64) (.int .i64))) o9,.arr (.st (.pair (.int .i64) .str)) o10])
def decPAq14 (l : List AV) (H : List AE.Obj) : Option {a : Aq14 // (l,H) = argsq14 a} := match l,H with
  | [.ptr 0 0],[.cells [.ifc 27 (.ptr 1 0),.ifc 27 (.ptr 2 0),.int .i64 o0_2,.own 3,.own 4],.cells [.own 5,.ro (.int .i64) o1_1,.own 6,.own 7,.int .i64 o1_4,.int .i64 o1_5],.cells [.ro (.int .i64) o2_0,.own 8,.own 9,.own 10,.int .i64 o2_4,.int .i64 o2_5],.arr (.st (.pair (.int .i64) .str)) o3,.arr (.st (.pair (.int .i64) (.int .i64))) o4,.arr (.int .i64) o5,.arr (.st (.pair (.int .i64) (.int .i64))) o6,.arr (.st (.pair (.int .i64) .str)) o7,.arr (.int .i64) o8,.arr (.st (.pair (.int .i64) (.int .i64))) o9,.arr (.st (.pair (.int .i64) .str)) o10] => some ⟨(o0_2,o1_1,o1_4,o1_5,o2_0,o2_4,o2_5,o3,o4,o5,o6,o7,o8,o9,o10),rfl⟩
  | _,_ => none
def decAq14 (l : List AV) (H : List AE.Obj) : Option Aq14 := pk (decPAq14 l H)
theorem decAq14_ok (l : List AV) (H : List AE.Obj) (a : Aq14) (h : decAq14 l H = some a) : (l,H) = argsq14 a := pk_ok (o := decPAq14 l H) h
def outq14 : Aq14 → (AV → List AE.Obj → Ans) → Yq14 → Ans := fun (o0_2,o1_1,o1_4,o1_5,o2_0,o2_4,o2_5,o3,o4,o5,o6,o7,o8,o9,o10) K => unP fun r_y => unP fun o0_2_y => unP fun o1_4_y => unP fun o1_5_y => unP fun o2_4_y => unP fun o2_5_y => unP fun o15_y o18_y => K (.int .i64 r_y) [.cells [.ifc 27 (.ptr 1 0),.ifc 27 (.ptr 2 0),.int .i64 o0_2_y,.own 11,.own 12],.cells [.own 13,.ro (.int .i64) o1_1,.own 14,.own 15,.int .i64 o1_4_y,.int .i64 o1_5_y],.cells [.ro (.int .i64) o2_0,.own 16,.own 17,.own 18,.int .i64 o2_4_y,.int .i64 o2_5_y],.dead,.dead,.dead,.dead,.dead,.dead,.dead,.dead,.arr (.st (.pair (.int .i64) .str)) o3,.arr (.st (.pair (.int .i64) (.int .i64))) ([]),.arr (.int .i64) o5,.arr (.st (.pair (.int .i64) (.int .i64))) o6,.arr (.st (.pair (.int .i64) .str)) o15_y,.arr (.int .i64) o8,.arr (.st (.pair (.int .i64) (.int .i64))) o9,.arr (.st (.pair (.int .i64) .str)) o18_y]
theorem fnq14_ok (a : Aq14) (K : AV → List AE.Obj → Ans) : fnE Try.tab envq14 noHint 0 70 12 Try.f12.ntmps Try.f12.results.toList annq14 bq14 (argsq14 a).1 (argsq14 a).2 K = fnq14 a (outq14 a K) := by kernel_rfl
def vFq14 (a : Aq14) (K : AV → List AE.Obj → Ans) : Ans := bindO (fnDq14 a) fun y => outq14 a K y
def Fq14 : List AV → List AE.Obj → (AV → List AE.Obj → Ans) → Ans := fun l H K => bindO (decAq14 l H) fun a => vFq14 a K
theorem Fq14_ok : FuncOk Try.prog 12 Fq14 := func_mkD (hint := noHint) (d := 0) (n := 70) mixed tabOk envq14Ok Try.func12 (bodySome (by kernel_rfl)) (by decide +kernel) annq14_ok decAq14_ok fnq14_ok fnq14_nat
--@ client_Client_At_3
noncomputable def envq2 : Env := []
theorem envq2Ok : EnvOk Try.prog envq2 := EnvOk.nil
noncomputable def bq2 : Code := Try.f13.body.getD .skip
noncomputable def annq2 : Ann := .none
theorem annq2_ok : AnnOk Try.prog 9 bq2 annq2 := (annOk_none _ _ _)
abbrev Aq2 := (Int) × (List Int) × (Int) × (Int) × (List Int) × (Int) × (Int) × (List (Int × List UInt8)) × (List (Int × Int)) × (List Int) × (List (Int × Int)) × (List (Int × List UInt8)) × (List Int) × (List (Int × Int)) × (List (Int × List UInt8))
abbrev Yq2 := Unit
def fnq2 {β : Type} : Aq2 → (Yq2 → Option β) → Option β := fun (o0_2,o1_1,o1_4,o1_5,o2_0,o2_4,o2_5,o3,o4,o5,o6,o7,o8,o9,o10) exit => (exit ())
def fnDq2 (a : Aq2) : Option Yq2 := fnq2 a some
theorem fnq2_nat (a : Aq2) (k : Yq2 → Ans) : fnq2 a k = bindO (fnDq2 a) k := by
  obtain ⟨o0_2,o1_1,o1_4,o1_5,o2_0,o2_4,o2_5,o3,o4,o5,o6,o7,o8,o9,o10⟩ := a
  simp only [fnDq2,fnq2,bindO_cond,bindO_assoc,bindO_none,bindO_pure,bindO_elim,bindO_unP,bindO_empty]
def argsq2 : Aq2 → List AV × List AE.Obj := fun (o0_2,o1_1,o1_4,o1_5,o2_0,o2_4,o2_5,o3,o4,o5,o6,o7,o8,o9,o10) => ([.ptr 0 0],[.cells [.ifc 27 (.ptr 1 0),.ifc 27 (.ptr 2 0),.int .i64 o0_2,.own 3,.own 4],.cells [.own 5,.ro (.int .i64) o1_1,.own 6,.own 7,.int .i64 o1_4,.int .i64 o1_5],.cells [.ro (.int .i64) o2_0,.own 8,.own 9,.own 10,.int .i64 o2_4,.int .i64 o2_5],.arr (.st (.pair (.int .i64) .str)) o3,.arr (.st (.pair (.int .i64) (.int .i64))) o4,.arr (.int .i64) o5,.arr (.st (.pair (.int .i64) (.int .i64))) o6,.arr (.st (.pair (.int .i64) .str)) o7,.arr (.int .i64) o8,.arr (.st (.pair (.int .i64) (.int .i64))) o9,.arr (.st (.pair (.int .i64) .str)) o10])
def decPAq2 (l : List AV) (H : List AE.Obj) : Option {a : Aq2 // (l,H) = argsq2 a} := match l,H with
  | [.ptr 0 0],[.cells [.ifc 27 (.ptr 1 0),.ifc 27 (.ptr 2 0),.int .i64 o0_2,.own 3,.own 4],.cells [.own 5,.ro (.int .i64) o1_1,.own 6,.own 7,.int .i64 o1_4,.int .i64 o1_5],.cells [.ro (.int .i64) o2_0,.own 8,.own 9,.own 10,.int .i64 o2_4,.int .i64 o2_5],.arr (.st (.pair (.int .i64) .str)) o3,.arr (.st (.pair (.int .i64) (.int .i64))) o4,.arr (.int .i64) o5,.arr (.st (.pair (.int .i64) (.int .i64))) o6,.arr (.st (.pair (.int .i64) .str)) o7,.arr (.int .i64) o8,.arr (.st (.pair (.int .i64) (.int .i64))) o9,.arr (.st (.pair (.int .i64) .str)) o10] => some ⟨(o0_2,o1_1,o1_4,o1_5,o2_0,o2_4,o2_5,o3,o4,o5,o6,o7,o8,o9,o10),rfl⟩
  | _,_ => none
def decAq2 (l : List AV) (H : List AE.Obj) : Option Aq2 := pk (decPAq2 l H)
theorem decAq2_ok (l : List AV) (H : List AE.Obj) (a : Aq2) (h : decAq2 l H = some a) : (l,H) = argsq2 a := pk_ok (o := decPAq2 l H) h
def outq2 : Aq2 → (AV → List AE.Obj → Ans) → Yq2 → Ans := fun (o0_2,o1_1,o1_4,o1_5,o2_0,o2_4,o2_5,o3,o4,o5,o6,o7,o8,o9,o10) K => fun _ => K (.int .i64 o0_2) [.cells [.ifc 27 (.ptr 1 0),.ifc 27 (.ptr 2 0),.int .i64 o0_2,.own 3,.own 4],.cells [.own 5,.ro (.int .i64) o1_1,.own 6,.own 7,.int .i64 o1_4,.int .i64 o1_5],.cells [.ro (.int .i64) o2_0,.own 8,.own 9,.own 10,.int .i64 o2_4,.int .i64 o2_5],.arr (.st (.pair (.int .i64) .str)) o3,.arr (.st (.pair (.int .i64) (.int .i64))) o4,.arr (.int .i64) o5,.arr (.st (.pair (.int .i64) (.int .i64))) o6,.arr (.st (.pair (.int .i64) .str)) o7,.arr (.int .i64) o8,.arr (.st (.pair (.int .i64) (.int .i64))) o9,.arr (.st (.pair (.int .i64) .str)) o10]
theorem fnq2_ok (a : Aq2) (K : AV → List AE.Obj → Ans) : fnE Try.tab envq2 noHint 0 70 13 Try.f13.ntmps Try.f13.results.toList annq2 bq2 (argsq2 a).1 (argsq2 a).2 K = fnq2 a (outq2 a K) := by kernel_rfl
def vFq2 (a : Aq2) (K : AV → List AE.Obj → Ans) : Ans := bindO (fnDq2 a) fun y => outq2 a K y
def Fq2 : List AV → List AE.Obj → (AV → List AE.Obj → Ans) → Ans := fun l H K => bindO (decAq2 l H) fun a => vFq2 a K
theorem Fq2_ok : FuncOk Try.prog 13 Fq2 := func_mkD (hint := noHint) (d := 0) (n := 70) mixed tabOk envq2Ok Try.func13 (bodySome (by kernel_rfl)) (by decide +kernel) annq2_ok decAq2_ok fnq2_ok fnq2_nat
--@ law09_Sectors
noncomputable def envq33 : Env := []
theorem envq33Ok : EnvOk Try.prog envq33 := EnvOk.nil
noncomputable def bq33 : Code := Try.f14.body.getD .skip
noncomputable def Lq33_n1 : Code := codeAt [1,1,0,1,0,0,0,0] bq33
noncomputable def annLq33_n1 : Ann := .none
theorem annLq33_n1_ok : AnnOk Try.prog 32 Lq33_n1 annLq33_n1 := (annOk_none _ _ _)
abbrev Iq33_n1 := (List (Int × List UInt8)) × (List (Int × List UInt8)) × (Int)
abbrev Yq33_n1 := (Bool)
def Sq33_n1 : Iq33_n1 → St := fun (t0,t1,t5) => { env := [(0,.ro (.st (.pair (.int .i64) .str)) t0),(1,.ro (.st (.pair (.int .i64) .str)) t1),(5,.int .i64 t5)],stk := [[]],H := [],blk := 57344 }
def decPq33_n1 (s : St) : Option {x : Iq33_n1 // s = Sq33_n1 x} := match s with
  | { env := [(0,.ro (.st (.pair (.int .i64) .str)) t0),(1,.ro (.st (.pair (.int .i64) .str)) t1),(5,.int .i64 t5)],stk := [[]],H := [],blk := 57344 } => some ⟨(t0,t1,t5),rfl⟩
  | _ => none
def decq33_n1 (s : St) : Option Iq33_n1 := pk (decPq33_n1 s)
theorem decq33_n1_ok (s : St) (x : Iq33_n1) (h : decq33_n1 s = some x) : s = Sq33_n1 x := pk_ok (o := decPq33_n1 s) h
def outq33_n1 : Iq33_n1 → (Ex → St → Ans) → Yq33_n1 → Ans := fun (t0,t1,t5) K => fun t20_y => K (Ex.norm) { env := [(0,.ro (.st (.pair (.int .i64) .str)) t0),(1,.ro (.st (.pair (.int .i64) .str)) t1),(5,.int .i64 t5),(20,.bool t20_y)],stk := [[]],H := [],blk := 57344 }
def nodeq33_n1 {β : Type} : Iq33_n1 → (Yq33_n1 → Option β) → Option β := fun (t0,t1,t5) exit => (bif decide (t5 < (↑(List.length t0) : Int)) then (exit (decide (t5 < (↑(List.length t1) : Int)))) else (exit (false)))
def nodeDq33_n1 (i : Iq33_n1) : Option Yq33_n1 := nodeq33_n1 i some
theorem nodeq33_n1_nat (i : Iq33_n1) (k : Yq33_n1 → Ans) : nodeq33_n1 i k = bindO (nodeDq33_n1 i) k := by
  obtain ⟨t0,t1,t5⟩ := i
  simp only [nodeDq33_n1,nodeq33_n1,bindO_cond,bindO_assoc,bindO_none,bindO_pure,bindO_elim,bindO_unP,bindO_empty]
theorem nodeq33_n1_ok (i : Iq33_n1) (K : Ex → St → Ans) : codeI Try.tab envq33 noHint (codeD Try.tab envq33 noHint 0 64) 70 32 annLq33_n1 Lq33_n1 (weakP 0 (exk [0,1,5,20] [4] []) K) (Sq33_n1 i) = nodeq33_n1 i (outq33_n1 i K) := by kernel_rfl
theorem GNq33_n1_ok : CSum Try.prog 32 Lq33_n1 (sumN decq33_n1 nodeDq33_n1 outq33_n1) := csum_node mixed tabOk envq33Ok 0 (exk [0,1,5,20] [4] []) annLq33_n1_ok decq33_n1_ok nodeq33_n1_ok nodeq33_n1_nat
noncomputable def Gq33_n1 : (Ex → St → Ans) → St → Ans := (sumN decq33_n1 nodeDq33_n1 outq33_n1)
theorem Gq33_n1_ok : CSum Try.prog 32 Lq33_n1 Gq33_n1 := GNq33_n1_ok
noncomputable def Lq33_n0 : Code := codeAt [1,1,0,1,0,0] bq33
noncomputable def annLq33_n0 : Ann := .at 0 [0,1,5] (.loop (.seq (.seq (.cut 0 [0,1,5] Gq33_n1) .none) .none))
theorem annLq33_n0_ok : AnnOk Try.prog 32 (.loop Lq33_n0) annLq33_n0 := annOk_at ⟨⟨Gq33_n1_ok,(annOk_none _ _ _)⟩,(annOk_none _ _ _)⟩
abbrev Iq33_n0 := (List (Int × List UInt8)) × (List (Int × List UInt8))
abbrev Yq33_n0 := (Unit) ⊕ (Unit)
abbrev Vq33_n0 := (Int)
def Sq33_n0 : Iq33_n0 → Vq33_n0 → St := fun (t0,t1) t5 => { env := [(0,.ro (.st (.pair (.int .i64) .str)) t0),(1,.ro (.st (.pair (.int .i64) .str)) t1),(5,.int .i64 t5)],stk := [[]],H := [],blk := 57344 }
def decPq33_n0 (s : St) : Option {x : Iq33_n0 × Vq33_n0 // s = Sq33_n0 x.1 x.2} := match s with
  | { env := [(0,.ro (.st (.pair (.int .i64) .str)) t0),(1,.ro (.st (.pair (.int .i64) .str)) t1),(5,.int .i64 t5)],stk := [[]],H := [],blk := 57344 } => some ⟨((t0,t1),t5),rfl⟩
  | _ => none
def decq33_n0 (s : St) : Option (Iq33_n0 × Vq33_n0) := pk (decPq33_n0 s)
theorem decq33_n0_ok (s : St) (x : Iq33_n0 × Vq33_n0) (h : decq33_n0 s = some x) : s = Sq33_n0 x.1 x.2 := pk_ok (o := decPq33_n0 s) h
def outq33_n0 : Iq33_n0 → (Ex → St → Ans) → Yq33_n0 → Ans := fun (t0,t1) K => (Sum.elim (fun _ => K (Ex.ret) { env := [(4,.bool (false))],stk := [[]],H := [],blk := 57345 }) (fun _ => K (Ex.exit 0) { env := [],stk := [[]],H := [],blk := 57344 }))
def stepq33_n0 {β : Type} : Iq33_n0 → Vq33_n0 → (Vq33_n0 → Option β) → (Yq33_n0 → Option β) → Option β := fun (t0,t1) t5 next exit => (bindO (nodeDq33_n1 (t0,t1,t5)) fun t20 => (bif t20 then (bindO (nth t0 t5) fun x => (bindO (nth t1 t5) fun x_2 => (bif !(x.fst == x_2.fst && (x.snd == x_2.snd && true)) then (exit (Sum.inl ())) else (next (IntKind.wrap .i64 (t5 + (1 : Int))))))) else (exit (Sum.inr ()))))
def stepDq33_n0 (i : Iq33_n0) (v : Vq33_n0) : Option (Vq33_n0 ⊕ Yq33_n0) := stepq33_n0 i v (fun v => some (.inl v)) (fun y => some (.inr y))
theorem stepq33_n0_nat (i : Iq33_n0) (v : Vq33_n0) (next : Vq33_n0 → Ans) (exit : Yq33_n0 → Ans) : stepq33_n0 i v next exit = bindO (stepDq33_n0 i v) (Sum.elim next exit) := by
  obtain ⟨t0,t1⟩ := i
  obtain z := v
  simp only [stepDq33_n0,stepq33_n0,bindO_cond,bindO_assoc,bindO_none,bindO_pure,bindO_elim,bindO_unP,bindO_empty,Sum.elim_inl,Sum.elim_inr]
theorem stepq33_n0_ok (n : Nat) (i : Iq33_n0) (v : Vq33_n0) (K : Ex → St → Ans) : codeI Try.tab envq33 noHint (codeD Try.tab envq33 noHint 0 64) (n+1) 32 annLq33_n0 (.loop Lq33_n0) (weakP 0 (exk [] [4] [(0,[])]) K) (Sq33_n0 i v) = stepq33_n0 i v (fun v' => codeI Try.tab envq33 noHint (codeD Try.tab envq33 noHint 0 64) n 32 annLq33_n0 (.loop Lq33_n0) (weakP 0 (exk [] [4] [(0,[])]) K) (Sq33_n0 i v')) (fun y => outq33_n0 i K y) := by kernel_rfl
theorem GNq33_n0_ok : CSum Try.prog 32 (.loop Lq33_n0) (sumL decq33_n0 stepDq33_n0 outq33_n0) := csum_loop mixed tabOk envq33Ok 0 (exk [] [4] [(0,[])]) annLq33_n0_ok decq33_n0_ok stepq33_n0_ok stepq33_n0_nat
noncomputable def Gq33_n0 : (Ex → St → Ans) → St → Ans := (sumL decq33_n0 stepDq33_n0 outq33_n0)
theorem Gq33_n0_ok : CSum Try.prog 32 (.loop Lq33_n0) Gq33_n0 := GNq33_n0_ok
noncomputable def annq33 : Ann := (.seq .none (.seq .none (.seq (.seq .none (.block (.cut 0 [0,1,5] Gq33_n0))) .none)))
theorem annq33_ok : AnnOk Try.prog 32 bq33 annq33 := ⟨(annOk_none _ _ _),⟨(annOk_none _ _ _),⟨⟨(annOk_none _ _ _),Gq33_n0_ok⟩,(annOk_none _ _ _)⟩⟩⟩
abbrev Aq33 := (List (Int × List UInt8)) × (List (Int × List UInt8))
abbrev Yq33 := (Bool)
def fnq33 {β : Type} : Aq33 → (Yq33 → Option β) → Option β := fun (a0,a1) exit => (bif (↑(List.length a0) : Int) != (↑(List.length a1) : Int) then (exit (false)) else (bindO (loopD (stepDq33_n0 (a0,a1)) FUEL ((0 : Int))) (Sum.elim (fun _ => (exit (false))) (fun _ => (exit (true))))))
def fnDq33 (a : Aq33) : Option Yq33 := fnq33 a some
theorem fnq33_nat (a : Aq33) (k : Yq33 → Ans) : fnq33 a k = bindO (fnDq33 a) k := by
  obtain ⟨a0,a1⟩ := a
  simp only [fnDq33,fnq33,bindO_cond,bindO_assoc,bindO_none,bindO_pure,bindO_elim,bindO_unP,bindO_empty]
def argsq33 : Aq33 → List AV := fun (a0,a1) => [.ro (.st (.pair (.int .i64) .str)) a0,.ro (.st (.pair (.int .i64) .str)) a1]
def decPAq33 (l : List AV) : Option {a : Aq33 // l = argsq33 a} := match l with
  | [.ro (.st (.pair (.int .i64) .str)) a0,.ro (.st (.pair (.int .i64) .str)) a1] => some ⟨(a0,a1),rfl⟩
  | _ => none
def decAq33 (l : List AV) : Option Aq33 := pk (decPAq33 l)
theorem decAq33_ok (l : List AV) (a : Aq33) (h : decAq33 l = some a) : l = argsq33 a := pk_ok (o := decPAq33 l) h
def rendq33 : Aq33 → Yq33 → AV := fun (a0,a1) => fun r_y => .bool r_y
theorem rendq33_ok : ∀ (a : Aq33) (y : Yq33),(rendq33 a y).closed1 = true := by
  rintro ⟨a0,a1⟩ y <;> first | rfl | exact Empty.elim y
theorem fnq33_ok (a : Aq33) : fnE Try.tab envq33 noHint 0 70 14 Try.f14.ntmps Try.f14.results.toList annq33 bq33 (argsq33 a) [] (fun v _ => some (v,[])) = fnq33 a (fun y => some (rendq33 a y,[])) := by kernel_rfl
def vFq33 (a : Aq33) (K : AV → Ans) : Ans := bindO (fnDq33 a) fun y => K (rendq33 a y)
def Fq33 : List AV → (AV → Ans) → Ans := fun l K => bindO (decAq33 l) fun a => vFq33 a K
theorem Fq33_ok : PureOk Try.prog 14 Fq33 := pure_mkD (hint := noHint) (d := 0) (n := 70) mixed tabOk envq33Ok Try.func14 (bodySome (by kernel_rfl)) (by decide +kernel) annq33_ok decAq33_ok fnq33_ok fnq33_nat rendq33_ok
end Go.Proofs.R8
namespace Go.Proofs.R8
open Go Go.AE
set_option maxRecDepth 100000
--@ law44_ClientOver
noncomputable def envq35 : Env := [(6,.pure Fq47),(7,.pure Fq46),(8,.func Fq32),(9,.func Fq23),(10,.func Fq6),(11,.func Fq10),(12,.func Fq14),(13,.func Fq2),(14,.pure Fq33)]
theorem envq35Ok : EnvOk Try.prog envq35 := EnvOk.cons Fq47_ok (EnvOk.cons Fq46_ok (EnvOk.cons Fq32_ok (EnvOk.cons Fq23_ok (EnvOk.cons Fq6_ok (EnvOk.cons Fq10_ok (EnvOk.cons Fq14_ok (EnvOk.cons Fq2_ok (EnvOk.cons Fq33_ok (EnvOk.nil)))))))))
noncomputable def bq35 : Code := Try.f3.body.getD .skip
noncomputable def Lq35_n7 : Code := codeAt [1,1,1,1,1,1,1,1,1,1,1,1,1,1,0] bq35
noncomputable def annLq35_n7 : Ann := .none
theorem annLq35_n7_ok : AnnOk Try.prog 154 Lq35_n7 annLq35_n7 := (annOk_none _ _ _)
abbrev Iq35_n7 := (Int) × (Int) × (List Int) × (Int) × (Int) × (Int) × (List (Int × List UInt8)) × (List (Int × List UInt8)) × (List Int) × (Int) × (Int) × (List (Int × List UInt8)) × (List (Int × List UInt8))
abbrev Yq35_n7 := (Bool)
def Sq35_n7 : Iq35_n7 → St := fun (t12,t16,o0_1,o0_4,o0_5,o1_2,o2,o5,o6_0,o6_4,o6_5,o7,o11) => { env := [(7,.ptr 0 0),(9,.ptr 1 0),(11,.own 2),(12,.int .i64 t12),(16,.int .i64 t16)],stk := [[]],H := [.cells [.own 3,.ro (.int .i64) o0_1,.own 4,.own 5,.int .i64 o0_4,.int .i64 o0_5],.cells [.ifc 27 (.ptr 0 0),.ifc 27 (.ptr 6 0),.int .i64 o1_2,.own 7,.own 8],.arr (.st (.pair (.int .i64) .str)) o2,.arr (.int .i64) ([]),.arr (.st (.pair (.int .i64) (.int .i64))) ([]),.arr (.st (.pair (.int .i64) .str)) o5,.cells [.ro (.int .i64) o6_0,.own 9,.own 10,.own 11,.int .i64 o6_4,.int .i64 o6_5],.arr (.st (.pair (.int .i64) .str)) o7,.arr (.st (.pair (.int .i64) (.int .i64))) ([]),.arr (.int .i64) ([]),.arr (.st (.pair (.int .i64) (.int .i64))) ([]),.arr (.st (.pair (.int .i64) .str)) o11],blk := 12290 }
def decPq35_n7 (s : St) : Option {x : Iq35_n7 // s = Sq35_n7 x} := match s with
  | { env := [(7,.ptr 0 0),(9,.ptr 1 0),(11,.own 2),(12,.int .i64 t12),(16,.int .i64 t16)],stk := [[]],H := [.cells [.own 3,.ro (.int .i64) o0_1,.own 4,.own 5,.int .i64 o0_4,.int .i64 o0_5],.cells [.ifc 27 (.ptr 0 0),.ifc 27 (.ptr 6 0),.int .i64 o1_2,.own 7,.own 8],.arr (.st (.pair (.int .i64) .str)) o2,.arr (.int .i64) r7,.arr (.st (.pair (.int .i64) (.int .i64))) r8,.arr (.st (.pair (.int .i64) .str)) o5,.cells [.ro (.int .i64) o6_0,.own 9,.own 10,.own 11,.int .i64 o6_4,.int .i64 o6_5],.arr (.st (.pair (.int .i64) .str)) o7,.arr (.st (.pair (.int .i64) (.int .i64))) r14,.arr (.int .i64) r15,.arr (.st (.pair (.int .i64) (.int .i64))) r16,.arr (.st (.pair (.int .i64) .str)) o11],blk := 12290 } => if h7 : r7 = [] then if h8 : r8 = [] then if h14 : r14 = [] then if h15 : r15 = [] then if h16 : r16 = [] then some ⟨(t12,t16,o0_1,o0_4,o0_5,o1_2,o2,o5,o6_0,o6_4,o6_5,o7,o11),by subst h7 h8 h14 h15 h16; rfl⟩ else none else none else none else none else none
  | _ => none
def decq35_n7 (s : St) : Option Iq35_n7 := pk (decPq35_n7 s)
theorem decq35_n7_ok (s : St) (x : Iq35_n7) (h : decq35_n7 s = some x) : s = Sq35_n7 x := pk_ok (o := decPq35_n7 s) h
def outq35_n7 : Iq35_n7 → (Ex → St → Ans) → Yq35_n7 → Ans := fun (t12,t16,o0_1,o0_4,o0_5,o1_2,o2,o5,o6_0,o6_4,o6_5,o7,o11) K => fun t6_y => K (Ex.norm) { env := [(6,.bool t6_y)],stk := [[]],H := [],blk := 12290 }
def nodeq35_n7 {β : Type} : Iq35_n7 → (Yq35_n7 → Option β) → Option β := fun (t12,t16,o0_1,o0_4,o0_5,o1_2,o2,o5,o6_0,o6_4,o6_5,o7,o11) exit => (bif t16 == (0 : Int) then (bindO (fnDq2 (o1_2,o0_1,o0_4,o0_5,o6_0,o6_4,o6_5,o7,[],[],[],o5,[],[],o11)) fun _ => (bif o1_2 == (0 : Int) then (bif inR t12 (List.length o5 + (1 : Nat)) then (bif Nat.ble (Int.toNat t12 + (List.length o5 - Int.toNat t12)) (List.length o5) then (bindO (fnDq33 (List.take (List.length o5 - Int.toNat t12) (List.drop (Int.toNat t12) o5),o2)) fun r => (bif r then (bindO (fnDq10 (o1_2,o0_1,o0_4,o0_5,o6_0,o6_4,o6_5,o7,[],[],[],o5,[],[],o11)) fun o11_2 => (bindO (fnDq33 (o11_2,o2)) fun r_2 => (exit (r_2)))) else (exit (false)))) else none) else none) else (exit (false)))) else (exit (false)))
def nodeDq35_n7 (i : Iq35_n7) : Option Yq35_n7 := nodeq35_n7 i some
theorem nodeq35_n7_nat (i : Iq35_n7) (k : Yq35_n7 → Ans) : nodeq35_n7 i k = bindO (nodeDq35_n7 i) k := by
  obtain ⟨t12,t16,o0_1,o0_4,o0_5,o1_2,o2,o5,o6_0,o6_4,o6_5,o7,o11⟩ := i
  simp only [nodeDq35_n7,nodeq35_n7,bindO_cond,bindO_assoc,bindO_none,bindO_pure,bindO_elim,bindO_unP,bindO_empty]
theorem nodeq35_n7_ok (i : Iq35_n7) (K : Ex → St → Ans) : codeI Try.tab envq35 noHint (codeD Try.tab envq35 noHint 0 64) 70 154 annLq35_n7 Lq35_n7 (weakP 0 (exk [6] [6] []) K) (Sq35_n7 i) = nodeq35_n7 i (outq35_n7 i K) := by kernel_rfl
theorem GNq35_n7_ok : CSum Try.prog 154 Lq35_n7 (sumN decq35_n7 nodeDq35_n7 outq35_n7) := csum_node mixed tabOk envq35Ok 0 (exk [6] [6] []) annLq35_n7_ok decq35_n7_ok nodeq35_n7_ok nodeq35_n7_nat
noncomputable def Gq35_n7 : (Ex → St → Ans) → St → Ans := (sumN decq35_n7 nodeDq35_n7 outq35_n7)
theorem Gq35_n7_ok : CSum Try.prog 154 Lq35_n7 Gq35_n7 := GNq35_n7_ok
noncomputable def Lq35_n6 : Code := codeAt [1,1,1,1,1,1,1,1,1,1,1,1,0,0] bq35
noncomputable def annLq35_n6 : Ann := .none
theorem annLq35_n6_ok : AnnOk Try.prog 154 Lq35_n6 annLq35_n6 := (annOk_none _ _ _)
abbrev Iq35_n6 := (Int) × (Int) × (Int) × (Int) × (List Int) × (Int) × (Int) × (List Int) × (Int) × (Int) × (Int) × (List (Int × List UInt8)) × (List (Int × List UInt8)) × (List (Int × List UInt8)) × (List (Int × List UInt8))
abbrev Yq35_n6 := (Bool)
def Sq35_n6 : Iq35_n6 → St := fun (t12,t13,t14,t15,o0_1,o0_4,o0_5,o1_0,o1_4,o1_5,o2_2,o3,o6,o9,o10) => { env := [(7,.ptr 0 0),(8,.ptr 1 0),(9,.ptr 2 0),(11,.own 3),(12,.int .i64 t12),(13,.int .i64 t13),(14,.int .i64 t14),(15,.int .i64 t15)],stk := [[]],H := [.cells [.own 4,.ro (.int .i64) o0_1,.own 5,.own 6,.int .i64 o0_4,.int .i64 o0_5],.cells [.ro (.int .i64) o1_0,.own 7,.own 8,.own 9,.int .i64 o1_4,.int .i64 o1_5],.cells [.ifc 27 (.ptr 0 0),.ifc 27 (.ptr 1 0),.int .i64 o2_2,.own 10,.own 11],.arr (.st (.pair (.int .i64) .str)) o3,.arr (.int .i64) ([]),.arr (.st (.pair (.int .i64) (.int .i64))) ([]),.arr (.st (.pair (.int .i64) .str)) o6,.arr (.int .i64) ([]),.arr (.st (.pair (.int .i64) (.int .i64))) ([]),.arr (.st (.pair (.int .i64) .str)) o9,.arr (.st (.pair (.int .i64) .str)) o10,.arr (.st (.pair (.int .i64) (.int .i64))) ([])],blk := 12290 }
def decPq35_n6 (s : St) : Option {x : Iq35_n6 // s = Sq35_n6 x} := match s with
  | { env := [(7,.ptr 0 0),(8,.ptr 1 0),(9,.ptr 2 0),(11,.own 3),(12,.int .i64 t12),(13,.int .i64 t13),(14,.int .i64 t14),(15,.int .i64 t15)],stk := [[]],H := [.cells [.own 4,.ro (.int .i64) o0_1,.own 5,.own 6,.int .i64 o0_4,.int .i64 o0_5],.cells [.ro (.int .i64) o1_0,.own 7,.own 8,.own 9,.int .i64 o1_4,.int .i64 o1_5],.cells [.ifc 27 (.ptr 0 0),.ifc 27 (.ptr 1 0),.int .i64 o2_2,.own 10,.own 11],.arr (.st (.pair (.int .i64) .str)) o3,.arr (.int .i64) r12,.arr (.st (.pair (.int .i64) (.int .i64))) r13,.arr (.st (.pair (.int .i64) .str)) o6,.arr (.int .i64) r15,.arr (.st (.pair (.int .i64) (.int .i64))) r16,.arr (.st (.pair (.int .i64) .str)) o9,.arr (.st (.pair (.int .i64) .str)) o10,.arr (.st (.pair (.int .i64) (.int .i64))) r19],blk := 12290 } => if h12 : r12 = [] then if h13 : r13 = [] then if h15 : r15 = [] then if h16 : r16 = [] then if h19 : r19 = [] then some ⟨(t12,t13,t14,t15,o0_1,o0_4,o0_5,o1_0,o1_4,o1_5,o2_2,o3,o6,o9,o10),by subst h12 h13 h15 h16 h19; rfl⟩ else none else none else none else none else none
  | _ => none
def decq35_n6 (s : St) : Option Iq35_n6 := pk (decPq35_n6 s)
theorem decq35_n6_ok (s : St) (x : Iq35_n6) (h : decq35_n6 s = some x) : s = Sq35_n6 x := pk_ok (o := decPq35_n6 s) h
def outq35_n6 : Iq35_n6 → (Ex → St → Ans) → Yq35_n6 → Ans := fun (t12,t13,t14,t15,o0_1,o0_4,o0_5,o1_0,o1_4,o1_5,o2_2,o3,o6,o9,o10) K => fun t128_y => K (Ex.norm) { env := [(7,.ptr 0 0),(9,.ptr 1 0),(11,.own 2),(12,.int .i64 t12),(128,.bool t128_y)],stk := [[]],H := [.cells [.own 3,.ro (.int .i64) o0_1,.own 4,.own 5,.int .i64 o0_4,.int .i64 o0_5],.cells [.ifc 27 (.ptr 0 0),.ifc 27 (.ptr 6 0),.int .i64 o2_2,.own 7,.own 8],.arr (.st (.pair (.int .i64) .str)) o3,.arr (.int .i64) ([]),.arr (.st (.pair (.int .i64) (.int .i64))) ([]),.arr (.st (.pair (.int .i64) .str)) o6,.cells [.ro (.int .i64) o1_0,.own 9,.own 10,.own 11,.int .i64 o1_4,.int .i64 o1_5],.arr (.st (.pair (.int .i64) .str)) o10,.arr (.st (.pair (.int .i64) (.int .i64))) ([]),.arr (.int .i64) ([]),.arr (.st (.pair (.int .i64) (.int .i64))) ([]),.arr (.st (.pair (.int .i64) .str)) o9],blk := 12290 }
def nodeq35_n6 {β : Type} : Iq35_n6 → (Yq35_n6 → Option β) → Option β := fun (t12,t13,t14,t15,o0_1,o0_4,o0_5,o1_0,o1_4,o1_5,o2_2,o3,o6,o9,o10) exit => (bif t15 != t13 then (exit (true)) else (bindO (fnDq2 (o2_2,o0_1,o0_4,o0_5,o1_0,o1_4,o1_5,o10,[],[],[],o6,[],[],o9)) fun _ => (bif o2_2 != (1 : Int) then (exit (true)) else (bif inR t14 (List.length o3 + (1 : Nat)) then (bif Nat.ble ((0 : Nat) + (Int.toNat t14 - (0 : Nat))) (List.length o3) then (bindO (fnDq33 (o9,List.take (Int.toNat t14 - (0 : Nat)) (List.drop (0 : Nat) o3))) fun r => (bif !r then (exit (true)) else (bindO (fnDq10 (o2_2,o0_1,o0_4,o0_5,o1_0,o1_4,o1_5,o10,[],[],[],o6,[],[],o9)) fun o11 => (bindO (fnDq33 (o11,o3)) fun r_2 => (exit (!r_2)))))) else none) else none))))
def nodeDq35_n6 (i : Iq35_n6) : Option Yq35_n6 := nodeq35_n6 i some
theorem nodeq35_n6_nat (i : Iq35_n6) (k : Yq35_n6 → Ans) : nodeq35_n6 i k = bindO (nodeDq35_n6 i) k := by
  obtain ⟨t12,t13,t14,t15,o0_1,o0_4,o0_5,o1_0,o1_4,o1_5,o2_2,o3,o6,o9,o10⟩ := i
  simp only [nodeDq35_n6,nodeq35_n6,bindO_cond,bindO_assoc,bindO_none,bindO_pure,bindO_elim,bindO_unP,bindO_empty]
theorem nodeq35_n6_ok (i : Iq35_n6) (K : Ex → St → Ans) : codeI Try.tab envq35 noHint (codeD Try.tab envq35 noHint 0 64) 70 154 annLq35_n6 Lq35_n6 (weakP 0 (exk [7,9,11,12,128] [6] []) K) (Sq35_n6 i) = nodeq35_n6 i (outq35_n6 i K) := by kernel_rfl
theorem GNq35_n6_ok : CSum Try.prog 154 Lq35_n6 (sumN decq35_n6 nodeDq35_n6 outq35_n6) := csum_node mixed tabOk envq35Ok 0 (exk [7,9,11,12,128] [6] []) annLq35_n6_ok decq35_n6_ok nodeq35_n6_ok nodeq35_n6_nat
noncomputable def Gq35_n6 : (Ex → St → Ans) → St → Ans := (sumN decq35_n6 nodeDq35_n6 outq35_n6)
theorem Gq35_n6_ok : CSum Try.prog 154 Lq35_n6 Gq35_n6 := GNq35_n6_ok
noncomputable def Lq35_n5 : Code := codeAt [1,1,1,1,1,1,1,1,1,1,0,0,0,1,0,0,1] bq35
noncomputable def annLq35_n5 : Ann := .none
theorem annLq35_n5_ok : AnnOk Try.prog 154 Lq35_n5 annLq35_n5 := (annOk_none _ _ _)
abbrev Iq35_n5 := (List Int) × (Int) × (Int) × (Int) × (Bool) × (List Int) × (Int) × (Int) × (List Int) × (Int) × (Int) × (List (Int × List UInt8)) × (List (Int × List UInt8)) × (List (Int × List UInt8)) × (List (Int × List UInt8)) × (List (Int × Int))
abbrev Yq35_n5 := (Int)
def Sq35_n5 : Iq35_n5 → St := fun (t1,t12,t13,t14,t92,o0_1,o0_4,o0_5,o1_0,o1_4,o1_5,o3,o6,o9,o10,o11) => { env := [(1,.ro (.int .i64) t1),(7,.ptr 0 0),(8,.ptr 1 0),(9,.ptr 2 0),(11,.own 3),(12,.int .i64 t12),(13,.int .i64 t13),(14,.int .i64 t14),(92,.bool t92)],stk := [[]],H := [.cells [.own 4,.ro (.int .i64) o0_1,.own 5,.own 6,.int .i64 o0_4,.int .i64 o0_5],.cells [.ro (.int .i64) o1_0,.own 7,.own 8,.own 9,.int .i64 o1_4,.int .i64 o1_5],.cells [.ifc 27 (.ptr 0 0),.ifc 27 (.ptr 1 0),.int .i64 (0),.own 10,.own 11],.arr (.st (.pair (.int .i64) .str)) o3,.arr (.int .i64) ([]),.arr (.st (.pair (.int .i64) (.int .i64))) ([]),.arr (.st (.pair (.int .i64) .str)) o6,.arr (.int .i64) ([]),.arr (.st (.pair (.int .i64) (.int .i64))) ([]),.arr (.st (.pair (.int .i64) .str)) o9,.arr (.st (.pair (.int .i64) .str)) o10,.arr (.st (.pair (.int .i64) (.int .i64))) o11],blk := 12291 }
def decPq35_n5 (s : St) : Option {x : Iq35_n5 // s = Sq35_n5 x} := match s with
  | { env := [(1,.ro (.int .i64) t1),(7,.ptr 0 0),(8,.ptr 1 0),(9,.ptr 2 0),(11,.own 3),(12,.int .i64 t12),(13,.int .i64 t13),(14,.int .i64 t14),(92,.bool t92)],stk := [[]],H := [.cells [.own 4,.ro (.int .i64) o0_1,.own 5,.own 6,.int .i64 o0_4,.int .i64 o0_5],.cells [.ro (.int .i64) o1_0,.own 7,.own 8,.own 9,.int .i64 o1_4,.int .i64 o1_5],.cells [.ifc 27 (.ptr 0 0),.ifc 27 (.ptr 1 0),.int .i64 r11,.own 10,.own 11],.arr (.st (.pair (.int .i64) .str)) o3,.arr (.int .i64) r13,.arr (.st (.pair (.int .i64) (.int .i64))) r14,.arr (.st (.pair (.int .i64) .str)) o6,.arr (.int .i64) r16,.arr (.st (.pair (.int .i64) (.int .i64))) r17,.arr (.st (.pair (.int .i64) .str)) o9,.arr (.st (.pair (.int .i64) .str)) o10,.arr (.st (.pair (.int .i64) (.int .i64))) o11],blk := 12291 } => if h11 : r11 = 0 then if h13 : r13 = [] then if h14 : r14 = [] then if h16 : r16 = [] then if h17 : r17 = [] then some ⟨(t1,t12,t13,t14,t92,o0_1,o0_4,o0_5,o1_0,o1_4,o1_5,o3,o6,o9,o10,o11),by subst h11 h13 h14 h16 h17; rfl⟩ else none else none else none else none else none
  | _ => none
def decq35_n5 (s : St) : Option Iq35_n5 := pk (decPq35_n5 s)
theorem decq35_n5_ok (s : St) (x : Iq35_n5) (h : decq35_n5 s = some x) : s = Sq35_n5 x := pk_ok (o := decPq35_n5 s) h
def outq35_n5 : Iq35_n5 → (Ex → St → Ans) → Yq35_n5 → Ans := fun (t1,t12,t13,t14,t92,o0_1,o0_4,o0_5,o1_0,o1_4,o1_5,o3,o6,o9,o10,o11) K => fun t13_y => K (Ex.norm) { env := [(1,.ro (.int .i64) t1),(7,.ptr 0 0),(8,.ptr 1 0),(9,.ptr 2 0),(11,.own 3),(12,.int .i64 t12),(13,.int .i64 t13_y),(14,.int .i64 t14)],stk := [[]],H := [.cells [.own 4,.ro (.int .i64) o0_1,.own 5,.own 6,.int .i64 o0_4,.int .i64 o0_5],.cells [.ro (.int .i64) o1_0,.own 7,.own 8,.own 9,.int .i64 o1_4,.int .i64 o1_5],.cells [.ifc 27 (.ptr 0 0),.ifc 27 (.ptr 1 0),.int .i64 (0),.own 10,.own 11],.arr (.st (.pair (.int .i64) .str)) o3,.arr (.int .i64) ([]),.arr (.st (.pair (.int .i64) (.int .i64))) ([]),.arr (.st (.pair (.int .i64) .str)) o6,.arr (.int .i64) ([]),.arr (.st (.pair (.int .i64) (.int .i64))) ([]),.arr (.st (.pair (.int .i64) .str)) o9,.arr (.st (.pair (.int .i64) .str)) o10,.arr (.st (.pair (.int .i64) (.int .i64))) o11],blk := 12291 }
def nodeq35_n5 {β : Type} : Iq35_n5 → (Yq35_n5 → Option β) → Option β := fun (t1,t12,t13,t14,t92,o0_1,o0_4,o0_5,o1_0,o1_4,o1_5,o3,o6,o9,o10,o11) exit => (bif t92 then (bindO (nth t1 t14) fun x => (exit (x))) else (exit (t13)))
def nodeDq35_n5 (i : Iq35_n5) : Option Yq35_n5 := nodeq35_n5 i some
theorem nodeq35_n5_nat (i : Iq35_n5) (k : Yq35_n5 → Ans) : nodeq35_n5 i k = bindO (nodeDq35_n5 i) k := by
  obtain ⟨t1,t12,t13,t14,t92,o0_1,o0_4,o0_5,o1_0,o1_4,o1_5,o3,o6,o9,o10,o11⟩ := i
  simp only [nodeDq35_n5,nodeq35_n5,bindO_cond,bindO_assoc,bindO_none,bindO_pure,bindO_elim,bindO_unP,bindO_empty]
theorem nodeq35_n5_ok (i : Iq35_n5) (K : Ex → St → Ans) : codeI Try.tab envq35 noHint (codeD Try.tab envq35 noHint 0 64) 70 154 annLq35_n5 Lq35_n5 (weakP 0 (exk [1,7,8,9,11,12,13,14] [6] []) K) (Sq35_n5 i) = nodeq35_n5 i (outq35_n5 i K) := by kernel_rfl
theorem GNq35_n5_ok : CSum Try.prog 154 Lq35_n5 (sumN decq35_n5 nodeDq35_n5 outq35_n5) := csum_node mixed tabOk envq35Ok 0 (exk [1,7,8,9,11,12,13,14] [6] []) annLq35_n5_ok decq35_n5_ok nodeq35_n5_ok nodeq35_n5_nat
noncomputable def Gq35_n5 : (Ex → St → Ans) → St → Ans := (sumN decq35_n5 nodeDq35_n5 outq35_n5)
theorem Gq35_n5_ok : CSum Try.prog 154 Lq35_n5 Gq35_n5 := GNq35_n5_ok
noncomputable def Lq35_n4 : Code := codeAt [1,1,1,1,1,1,1,1,1,1,0,0,0,0,0] bq35
noncomputable def annLq35_n4 : Ann := .none
theorem annLq35_n4_ok : AnnOk Try.prog 154 Lq35_n4 annLq35_n4 := (annOk_none _ _ _)
abbrev Iq35_n4 := (List Int) × (Int) × (Int) × (Int) × (List Int) × (Int) × (Int) × (List Int) × (Int) × (Int) × (List (Int × List UInt8)) × (List (Int × List UInt8)) × (List (Int × List UInt8)) × (List (Int × List UInt8)) × (List (Int × Int))
abbrev Yq35_n4 := (Bool)
def Sq35_n4 : Iq35_n4 → St := fun (t1,t12,t13,t14,o0_1,o0_4,o0_5,o1_0,o1_4,o1_5,o3,o6,o9,o10,o11) => { env := [(1,.ro (.int .i64) t1),(7,.ptr 0 0),(8,.ptr 1 0),(9,.ptr 2 0),(11,.own 3),(12,.int .i64 t12),(13,.int .i64 t13),(14,.int .i64 t14)],stk := [[]],H := [.cells [.own 4,.ro (.int .i64) o0_1,.own 5,.own 6,.int .i64 o0_4,.int .i64 o0_5],.cells [.ro (.int .i64) o1_0,.own 7,.own 8,.own 9,.int .i64 o1_4,.int .i64 o1_5],.cells [.ifc 27 (.ptr 0 0),.ifc 27 (.ptr 1 0),.int .i64 (0),.own 10,.own 11],.arr (.st (.pair (.int .i64) .str)) o3,.arr (.int .i64) ([]),.arr (.st (.pair (.int .i64) (.int .i64))) ([]),.arr (.st (.pair (.int .i64) .str)) o6,.arr (.int .i64) ([]),.arr (.st (.pair (.int .i64) (.int .i64))) ([]),.arr (.st (.pair (.int .i64) .str)) o9,.arr (.st (.pair (.int .i64) .str)) o10,.arr (.st (.pair (.int .i64) (.int .i64))) o11],blk := 12290 }
def decPq35_n4 (s : St) : Option {x : Iq35_n4 // s = Sq35_n4 x} := match s with
  | { env := [(1,.ro (.int .i64) t1),(7,.ptr 0 0),(8,.ptr 1 0),(9,.ptr 2 0),(11,.own 3),(12,.int .i64 t12),(13,.int .i64 t13),(14,.int .i64 t14)],stk := [[]],H := [.cells [.own 4,.ro (.int .i64) o0_1,.own 5,.own 6,.int .i64 o0_4,.int .i64 o0_5],.cells [.ro (.int .i64) o1_0,.own 7,.own 8,.own 9,.int .i64 o1_4,.int .i64 o1_5],.cells [.ifc 27 (.ptr 0 0),.ifc 27 (.ptr 1 0),.int .i64 r10,.own 10,.own 11],.arr (.st (.pair (.int .i64) .str)) o3,.arr (.int .i64) r12,.arr (.st (.pair (.int .i64) (.int .i64))) r13,.arr (.st (.pair (.int .i64) .str)) o6,.arr (.int .i64) r15,.arr (.st (.pair (.int .i64) (.int .i64))) r16,.arr (.st (.pair (.int .i64) .str)) o9,.arr (.st (.pair (.int .i64) .str)) o10,.arr (.st (.pair (.int .i64) (.int .i64))) o11],blk := 12290 } => if h10 : r10 = 0 then if h12 : r12 = [] then if h13 : r13 = [] then if h15 : r15 = [] then if h16 : r16 = [] then some ⟨(t1,t12,t13,t14,o0_1,o0_4,o0_5,o1_0,o1_4,o1_5,o3,o6,o9,o10,o11),by subst h10 h12 h13 h15 h16; rfl⟩ else none else none else none else none else none
  | _ => none
def decq35_n4 (s : St) : Option Iq35_n4 := pk (decPq35_n4 s)
theorem decq35_n4_ok (s : St) (x : Iq35_n4) (h : decq35_n4 s = some x) : s = Sq35_n4 x := pk_ok (o := decPq35_n4 s) h
def outq35_n4 : Iq35_n4 → (Ex → St → Ans) → Yq35_n4 → Ans := fun (t1,t12,t13,t14,o0_1,o0_4,o0_5,o1_0,o1_4,o1_5,o3,o6,o9,o10,o11) K => fun t88_y => K (Ex.norm) { env := [(1,.ro (.int .i64) t1),(7,.ptr 0 0),(8,.ptr 1 0),(9,.ptr 2 0),(11,.own 3),(12,.int .i64 t12),(13,.int .i64 t13),(14,.int .i64 t14),(88,.bool t88_y)],stk := [[]],H := [.cells [.own 4,.ro (.int .i64) o0_1,.own 5,.own 6,.int .i64 o0_4,.int .i64 o0_5],.cells [.ro (.int .i64) o1_0,.own 7,.own 8,.own 9,.int .i64 o1_4,.int .i64 o1_5],.cells [.ifc 27 (.ptr 0 0),.ifc 27 (.ptr 1 0),.int .i64 (0),.own 10,.own 11],.arr (.st (.pair (.int .i64) .str)) o3,.arr (.int .i64) ([]),.arr (.st (.pair (.int .i64) (.int .i64))) ([]),.arr (.st (.pair (.int .i64) .str)) o6,.arr (.int .i64) ([]),.arr (.st (.pair (.int .i64) (.int .i64))) ([]),.arr (.st (.pair (.int .i64) .str)) o9,.arr (.st (.pair (.int .i64) .str)) o10,.arr (.st (.pair (.int .i64) (.int .i64))) o11],blk := 12290 }
def nodeq35_n4 {β : Type} : Iq35_n4 → (Yq35_n4 → Option β) → Option β := fun (t1,t12,t13,t14,o0_1,o0_4,o0_5,o1_0,o1_4,o1_5,o3,o6,o9,o10,o11) exit => (bif decide (t14 < (↑(List.length o3) : Int)) then (exit (t13 == (0 : Int))) else (exit (false)))
def nodeDq35_n4 (i : Iq35_n4) : Option Yq35_n4 := nodeq35_n4 i some
theorem nodeq35_n4_nat (i : Iq35_n4) (k : Yq35_n4 → Ans) : nodeq35_n4 i k = bindO (nodeDq35_n4 i) k := by
  obtain ⟨t1,t12,t13,t14,o0_1,o0_4,o0_5,o1_0,o1_4,o1_5,o3,o6,o9,o10,o11⟩ := i
  simp only [nodeDq35_n4,nodeq35_n4,bindO_cond,bindO_assoc,bindO_none,bindO_pure,bindO_elim,bindO_unP,bindO_empty]
theorem nodeq35_n4_ok (i : Iq35_n4) (K : Ex → St → Ans) : codeI Try.tab envq35 noHint (codeD Try.tab envq35 noHint 0 64) 70 154 annLq35_n4 Lq35_n4 (weakP 0 (exk [1,7,8,9,11,12,13,14,88] [6] []) K) (Sq35_n4 i) = nodeq35_n4 i (outq35_n4 i K) := by kernel_rfl
theorem GNq35_n4_ok : CSum Try.prog 154 Lq35_n4 (sumN decq35_n4 nodeDq35_n4 outq35_n4) := csum_node mixed tabOk envq35Ok 0 (exk [1,7,8,9,11,12,13,14,88] [6] []) annLq35_n4_ok decq35_n4_ok nodeq35_n4_ok nodeq35_n4_nat
noncomputable def Gq35_n4 : (Ex → St → Ans) → St → Ans := (sumN decq35_n4 nodeDq35_n4 outq35_n4)
theorem Gq35_n4_ok : CSum Try.prog 154 Lq35_n4 Gq35_n4 := GNq35_n4_ok
noncomputable def Lq35_n3 : Code := codeAt [1,1,1,1,1,1,1,1,1,1,0,0,0] bq35
noncomputable def annLq35_n3 : Ann := .at 0 [1,7,8,9,11,12,13,14] (.loop (.seq (.seq (.cut 0 [1,7,8,9,11,12,13,14] Gq35_n4) .none) (.block (.seq (.seq .none (.cut 0 [1,7,8,9,11,12,13,14,92] Gq35_n5)) .none))))
theorem annLq35_n3_ok : AnnOk Try.prog 154 (.loop Lq35_n3) annLq35_n3 := annOk_at ⟨⟨Gq35_n4_ok,(annOk_none _ _ _)⟩,⟨⟨(annOk_none _ _ _),Gq35_n5_ok⟩,(annOk_none _ _ _)⟩⟩
abbrev Iq35_n3 := (List Int) × (Int) × (List Int) × (Int) × (Int) × (List Int) × (Int) × (Int) × (List (Int × List UInt8)) × (List (Int × List UInt8)) × (List (Int × List UInt8)) × (List (Int × List UInt8)) × (List (Int × Int))
abbrev Yq35_n3 := (Int) × (Int)
abbrev Vq35_n3 := (Int) × (Int)
def Sq35_n3 : Iq35_n3 → Vq35_n3 → St := fun (t1,t12,o0_1,o0_4,o0_5,o1_0,o1_4,o1_5,o3,o6,o9,o10,o11) (t13,t14) => { env := [(1,.ro (.int .i64) t1),(7,.ptr 0 0),(8,.ptr 1 0),(9,.ptr 2 0),(11,.own 3),(12,.int .i64 t12),(13,.int .i64 t13),(14,.int .i64 t14)],stk := [[]],H := [.cells [.own 4,.ro (.int .i64) o0_1,.own 5,.own 6,.int .i64 o0_4,.int .i64 o0_5],.cells [.ro (.int .i64) o1_0,.own 7,.own 8,.own 9,.int .i64 o1_4,.int .i64 o1_5],.cells [.ifc 27 (.ptr 0 0),.ifc 27 (.ptr 1 0),.int .i64 (0),.own 10,.own 11],.arr (.st (.pair (.int .i64) .str)) o3,.arr (.int .i64) ([]),.arr (.st (.pair (.int .i64) (.int .i64))) ([]),.arr (.st (.pair (.int .i64) .str)) o6,.arr (.int .i64) ([]),.arr (.st (.pair (.int .i64) (.int .i64))) ([]),.arr (.st (.pair (.int .i64) .str)) o9,.arr (.st (.pair (.int .i64) .str)) o10,.arr (.st (.pair (.int .i64) (.int .i64))) o11],blk := 12290 }
def decPq35_n3 (s : St) : Option {x : Iq35_n3 × Vq35_n3 // s = Sq35_n3 x.1 x.2} := match s with
  | { env := [(1,.ro (.int .i64) t1),(7,.ptr 0 0),(8,.ptr 1 0),(9,.ptr 2 0),(11,.own 3),(12,.int .i64 t12),(13,.int .i64 t13),(14,.int .i64 t14)],stk := [[]],H := [.cells [.own 4,.ro (.int .i64) o0_1,.own 5,.own 6,.int .i64 o0_4,.int .i64 o0_5],.cells [.ro (.int .i64) o1_0,.own 7,.own 8,.own 9,.int .i64 o1_4,.int .i64 o1_5],.cells [.ifc 27 (.ptr 0 0),.ifc 27 (.ptr 1 0),.int .i64 r10,.own 10,.own 11],.arr (.st (.pair (.int .i64) .str)) o3,.arr (.int .i64) r12,.arr (.st (.pair (.int .i64) (.int .i64))) r13,.arr (.st (.pair (.int .i64) .str)) o6,.arr (.int .i64) r15,.arr (.st (.pair (.int .i64) (.int .i64))) r16,.arr (.st (.pair (.int .i64) .str)) o9,.arr (.st (.pair (.int .i64) .str)) o10,.arr (.st (.pair (.int .i64) (.int .i64))) o11],blk := 12290 } => if h10 : r10 = 0 then if h12 : r12 = [] then if h13 : r13 = [] then if h15 : r15 = [] then if h16 : r16 = [] then some ⟨((t1,t12,o0_1,o0_4,o0_5,o1_0,o1_4,o1_5,o3,o6,o9,o10,o11),(t13,t14)),by subst h10 h12 h13 h15 h16; rfl⟩ else none else none else none else none else none
  | _ => none
def decq35_n3 (s : St) : Option (Iq35_n3 × Vq35_n3) := pk (decPq35_n3 s)
theorem decq35_n3_ok (s : St) (x : Iq35_n3 × Vq35_n3) (h : decq35_n3 s = some x) : s = Sq35_n3 x.1 x.2 := pk_ok (o := decPq35_n3 s) h
def outq35_n3 : Iq35_n3 → (Ex → St → Ans) → Yq35_n3 → Ans := fun (t1,t12,o0_1,o0_4,o0_5,o1_0,o1_4,o1_5,o3,o6,o9,o10,o11) K => unP fun t13_y t14_y => K (Ex.exit 2) { env := [(7,.ptr 0 0),(8,.ptr 1 0),(9,.ptr 2 0),(11,.own 3),(12,.int .i64 t12),(13,.int .i64 t13_y),(14,.int .i64 t14_y)],stk := [[]],H := [.cells [.own 4,.ro (.int .i64) o0_1,.own 5,.own 6,.int .i64 o0_4,.int .i64 o0_5],.cells [.ro (.int .i64) o1_0,.own 7,.own 8,.own 9,.int .i64 o1_4,.int .i64 o1_5],.cells [.ifc 27 (.ptr 0 0),.ifc 27 (.ptr 1 0),.int .i64 (0),.own 10,.own 11],.arr (.st (.pair (.int .i64) .str)) o3,.arr (.int .i64) ([]),.arr (.st (.pair (.int .i64) (.int .i64))) ([]),.arr (.st (.pair (.int .i64) .str)) o6,.arr (.int .i64) ([]),.arr (.st (.pair (.int .i64) (.int .i64))) ([]),.arr (.st (.pair (.int .i64) .str)) o9,.arr (.st (.pair (.int .i64) .str)) o10,.arr (.st (.pair (.int .i64) (.int .i64))) o11],blk := 12290 }
def stepq35_n3 {β : Type} : Iq35_n3 → Vq35_n3 → (Vq35_n3 → Option β) → (Yq35_n3 → Option β) → Option β := fun (t1,t12,o0_1,o0_4,o0_5,o1_0,o1_4,o1_5,o3,o6,o9,o10,o11) (t13,t14) next exit => (bindO (nodeDq35_n4 (t1,t12,t13,t14,o0_1,o0_4,o0_5,o1_0,o1_4,o1_5,o3,o6,o9,o10,o11)) fun t88 => (bif t88 then (bindO (nodeDq35_n5 (t1,t12,t13,t14,decide (t14 < (↑(List.length t1) : Int)),o0_1,o0_4,o0_5,o1_0,o1_4,o1_5,o3,o6,o9,o10,o11)) fun t13_2 => (bif t13_2 == (0 : Int) then (next (t13_2,IntKind.wrap .i64 (t14 + (1 : Int)))) else (next (t13_2,t14)))) else (exit (t13,t14))))
def stepDq35_n3 (i : Iq35_n3) (v : Vq35_n3) : Option (Vq35_n3 ⊕ Yq35_n3) := stepq35_n3 i v (fun v => some (.inl v)) (fun y => some (.inr y))
theorem stepq35_n3_nat (i : Iq35_n3) (v : Vq35_n3) (next : Vq35_n3 → Ans) (exit : Yq35_n3 → Ans) : stepq35_n3 i v next exit = bindO (stepDq35_n3 i v) (Sum.elim next exit) := by
  obtain ⟨t1,t12,o0_1,o0_4,o0_5,o1_0,o1_4,o1_5,o3,o6,o9,o10,o11⟩ := i
  obtain ⟨t13,t14⟩ := v
  simp only [stepDq35_n3,stepq35_n3,bindO_cond,bindO_assoc,bindO_none,bindO_pure,bindO_elim,bindO_unP,bindO_empty,Sum.elim_inl,Sum.elim_inr]
theorem stepq35_n3_ok (n : Nat) (i : Iq35_n3) (v : Vq35_n3) (K : Ex → St → Ans) : codeI Try.tab envq35 noHint (codeD Try.tab envq35 noHint 0 64) (n+1) 154 annLq35_n3 (.loop Lq35_n3) (weakP 0 (exk [7,8,9,11,12,13,14] [6] [(2,[7,8,9,11,12,13,14])]) K) (Sq35_n3 i v) = stepq35_n3 i v (fun v' => codeI Try.tab envq35 noHint (codeD Try.tab envq35 noHint 0 64) n 154 annLq35_n3 (.loop Lq35_n3) (weakP 0 (exk [7,8,9,11,12,13,14] [6] [(2,[7,8,9,11,12,13,14])]) K) (Sq35_n3 i v')) (fun y => outq35_n3 i K y) := by kernel_rfl
theorem GNq35_n3_ok : CSum Try.prog 154 (.loop Lq35_n3) (sumL decq35_n3 stepDq35_n3 outq35_n3) := csum_loop mixed tabOk envq35Ok 0 (exk [7,8,9,11,12,13,14] [6] [(2,[7,8,9,11,12,13,14])]) annLq35_n3_ok decq35_n3_ok stepq35_n3_ok stepq35_n3_nat
noncomputable def Gq35_n3 : (Ex → St → Ans) → St → Ans := (sumL decq35_n3 stepDq35_n3 outq35_n3)
theorem Gq35_n3_ok : CSum Try.prog 154 (.loop Lq35_n3) Gq35_n3 := GNq35_n3_ok
noncomputable def Lq35_n2 : Code := codeAt [1,1,1,1,1,0,1,0,0,1,0] bq35
noncomputable def annLq35_n2 : Ann := .none
theorem annLq35_n2_ok : AnnOk Try.prog 154 Lq35_n2 annLq35_n2 := (annOk_none _ _ _)
abbrev Iq35_n2 := (List (Int × Int × List UInt8 × Int × Int × Int × (Int × Int × Int × List UInt8) × List Int)) × (List Int) × (Int) × (List Int) × (Int) × (Int) × (List Int) × (Int) × (Int) × (List (Int × List UInt8)) × (List (Int × List UInt8)) × (List (Int × List UInt8)) × (List (Int × Int))
abbrev Yq35_n2 := (Int) × (Int) × (Int) × (Int) × (List (Int × List UInt8)) × (List (Int × List UInt8)) × (List (Int × List UInt8)) × (List (Int × Int))
def Sq35_n2 : Iq35_n2 → St := fun (t0,t1,t10,o0_1,o0_4,o0_5,o1_0,o1_4,o1_5,o5,o8,o9,o10) => { env := [(0,.ro (.st (.pair (.int .i64) (.pair (.int .i64) (.pair .str (.pair (.int .i64) (.pair (.int .i64) (.pair (.int .i64) (.pair (.pair (.int .i64) (.pair (.int .i64) (.pair (.int .i64) .str))) (.list (.int .i64)))))))))) t0),(1,.ro (.int .i64) t1),(7,.ptr 0 0),(8,.ptr 1 0),(9,.ptr 2 0),(10,.int .i64 t10)],stk := [[]],H := [.cells [.own 3,.ro (.int .i64) o0_1,.own 4,.own 5,.int .i64 o0_4,.int .i64 o0_5],.cells [.ro (.int .i64) o1_0,.own 6,.own 7,.own 8,.int .i64 o1_4,.int .i64 o1_5],.cells [.ifc 27 (.ptr 0 0),.ifc 27 (.ptr 1 0),.int .i64 (0),.own 9,.own 10],.arr (.int .i64) ([]),.arr (.st (.pair (.int .i64) (.int .i64))) ([]),.arr (.st (.pair (.int .i64) .str)) o5,.arr (.int .i64) ([]),.arr (.st (.pair (.int .i64) (.int .i64))) ([]),.arr (.st (.pair (.int .i64) .str)) o8,.arr (.st (.pair (.int .i64) .str)) o9,.arr (.st (.pair (.int .i64) (.int .i64))) o10],blk := 12288 }
def decPq35_n2 (s : St) : Option {x : Iq35_n2 // s = Sq35_n2 x} := match s with
  | { env := [(0,.ro (.st (.pair (.int .i64) (.pair (.int .i64) (.pair .str (.pair (.int .i64) (.pair (.int .i64) (.pair (.int .i64) (.pair (.pair (.int .i64) (.pair (.int .i64) (.pair (.int .i64) .str))) (.list (.int .i64)))))))))) t0),(1,.ro (.int .i64) t1),(7,.ptr 0 0),(8,.ptr 1 0),(9,.ptr 2 0),(10,.int .i64 t10)],stk := [[]],H := [.cells [.own 3,.ro (.int .i64) o0_1,.own 4,.own 5,.int .i64 o0_4,.int .i64 o0_5],.cells [.ro (.int .i64) o1_0,.own 6,.own 7,.own 8,.int .i64 o1_4,.int .i64 o1_5],.cells [.ifc 27 (.ptr 0 0),.ifc 27 (.ptr 1 0),.int .i64 r9,.own 9,.own 10],.arr (.int .i64) r10,.arr (.st (.pair (.int .i64) (.int .i64))) r11,.arr (.st (.pair (.int .i64) .str)) o5,.arr (.int .i64) r13,.arr (.st (.pair (.int .i64) (.int .i64))) r14,.arr (.st (.pair (.int .i64) .str)) o8,.arr (.st (.pair (.int .i64) .str)) o9,.arr (.st (.pair (.int .i64) (.int .i64))) o10],blk := 12288 } => if h9 : r9 = 0 then if h10 : r10 = [] then if h11 : r11 = [] then if h13 : r13 = [] then if h14 : r14 = [] then some ⟨(t0,t1,t10,o0_1,o0_4,o0_5,o1_0,o1_4,o1_5,o5,o8,o9,o10),by subst h9 h10 h11 h13 h14; rfl⟩ else none else none else none else none else none
  | _ => none
def decq35_n2 (s : St) : Option Iq35_n2 := pk (decPq35_n2 s)
theorem decq35_n2_ok (s : St) (x : Iq35_n2) (h : decq35_n2 s = some x) : s = Sq35_n2 x := pk_ok (o := decPq35_n2 s) h
def outq35_n2 : Iq35_n2 → (Ex → St → Ans) → Yq35_n2 → Ans := fun (t0,t1,t10,o0_1,o0_4,o0_5,o1_0,o1_4,o1_5,o5,o8,o9,o10) K => unP fun o0_4_y => unP fun o0_5_y => unP fun o1_4_y => unP fun o1_5_y => unP fun o5_y => unP fun o8_y => unP fun o9_y o10_y => K (Ex.norm) { env := [(0,.ro (.st (.pair (.int .i64) (.pair (.int .i64) (.pair .str (.pair (.int .i64) (.pair (.int .i64) (.pair (.int .i64) (.pair (.pair (.int .i64) (.pair (.int .i64) (.pair (.int .i64) .str))) (.list (.int .i64)))))))))) t0),(1,.ro (.int .i64) t1),(7,.ptr 0 0),(8,.ptr 1 0),(9,.ptr 2 0),(10,.int .i64 t10)],stk := [[]],H := [.cells [.own 3,.ro (.int .i64) o0_1,.own 4,.own 5,.int .i64 o0_4_y,.int .i64 o0_5_y],.cells [.ro (.int .i64) o1_0,.own 6,.own 7,.own 8,.int .i64 o1_4_y,.int .i64 o1_5_y],.cells [.ifc 27 (.ptr 0 0),.ifc 27 (.ptr 1 0),.int .i64 (0),.own 9,.own 10],.arr (.int .i64) ([]),.arr (.st (.pair (.int .i64) (.int .i64))) ([]),.arr (.st (.pair (.int .i64) .str)) o5_y,.arr (.int .i64) ([]),.arr (.st (.pair (.int .i64) (.int .i64))) ([]),.arr (.st (.pair (.int .i64) .str)) o8_y,.arr (.st (.pair (.int .i64) .str)) o9_y,.arr (.st (.pair (.int .i64) (.int .i64))) o10_y],blk := 12289 }
def nodeq35_n2 {β : Type} : Iq35_n2 → (Yq35_n2 → Option β) → Option β := fun (t0,t1,t10,o0_1,o0_4,o0_5,o1_0,o1_4,o1_5,o5,o8,o9,o10) exit => (bindO (nth t0 t10) fun x => (bif decide (x.fst < (2 : Int)) then (bindO (nth t0 t10) fun x_2 => (bindO (nth t0 t10) fun x_3 => (bindO (fnDq23 (x_2.snd.fst,x_3.snd.snd.fst,(0 : Int),o0_1,o0_4,o0_5,o1_0,o1_4,o1_5,o9,o10,[],[],o5,[],[],o8)) (Sum.elim (unP fun r => unP fun o1_4_2 => unP fun o1_5_2 => unP fun o2_4 => unP fun o2_5 o3 => (exit (o1_4_2,o1_5_2,o2_4,o2_5,o5,o8,o3,o10))) ((Sum.elim (unP fun r => unP fun o1_4_2 => unP fun o1_5_2 => unP fun o3 o11 => (exit (o1_4_2,o1_5_2,o1_4,o1_5,o11,o8,o3,o10))) (unP fun r => unP fun o2_4 => unP fun o2_5 => unP fun o3 o11 => (exit (o0_4,o0_5,o2_4,o2_5,o5,o11,o3,o10))))))))) else (bindO (nth t0 t10) fun x_2 => (bif x_2.fst == (2 : Int) then (bindO (fnDq6 ((0 : Int),o0_1,o0_4,o0_5,o1_0,o1_4,o1_5,o9,o10,[],[],o5,[],[],o8)) (Sum.elim (unP fun r_1 => unP fun o1_4_2 => unP fun o1_5_2 => unP fun o2_4 => unP fun o2_5 o4 => (exit (o1_4_2,o1_5_2,o2_4,o2_5,o5,o8,o9,o4))) (unP fun o1_4_2 => unP fun o1_5_2 => unP fun o2_4 => unP fun o2_5 => unP fun o4 o11 => (exit (o1_4_2,o1_5_2,o2_4,o2_5,o5,o8,o11,[]))))) else (exit (o0_4,o0_5,o1_4,o1_5,o5,o8,o9,o10))))))
def nodeDq35_n2 (i : Iq35_n2) : Option Yq35_n2 := nodeq35_n2 i some
theorem nodeq35_n2_nat (i : Iq35_n2) (k : Yq35_n2 → Ans) : nodeq35_n2 i k = bindO (nodeDq35_n2 i) k := by
  obtain ⟨t0,t1,t10,o0_1,o0_4,o0_5,o1_0,o1_4,o1_5,o5,o8,o9,o10⟩ := i
  simp only [nodeDq35_n2,nodeq35_n2,bindO_cond,bindO_assoc,bindO_none,bindO_pure,bindO_elim,bindO_unP,bindO_empty]
theorem nodeq35_n2_ok (i : Iq35_n2) (K : Ex → St → Ans) : codeI Try.tab envq35 noHint (codeD Try.tab envq35 noHint 0 64) 70 154 annLq35_n2 Lq35_n2 (weakP 0 (exk [0,1,7,8,9,10] [6] []) K) (Sq35_n2 i) = nodeq35_n2 i (outq35_n2 i K) := by kernel_rfl
theorem GNq35_n2_ok : CSum Try.prog 154 Lq35_n2 (sumN decq35_n2 nodeDq35_n2 outq35_n2) := csum_node mixed tabOk envq35Ok 0 (exk [0,1,7,8,9,10] [6] []) annLq35_n2_ok decq35_n2_ok nodeq35_n2_ok nodeq35_n2_nat
noncomputable def Gq35_n2 : (Ex → St → Ans) → St → Ans := (sumN decq35_n2 nodeDq35_n2 outq35_n2)
theorem Gq35_n2_ok : CSum Try.prog 154 Lq35_n2 Gq35_n2 := GNq35_n2_ok
noncomputable def Lq35_n1 : Code := codeAt [1,1,1,1,1,0,1,0,0] bq35
noncomputable def annLq35_n1 : Ann := .at 0 [0,1,7,8,9,10] (.loop (.seq .none (.seq (.cut 0 [0,1,7,8,9,10] Gq35_n2) .none)))
theorem annLq35_n1_ok : AnnOk Try.prog 154 (.loop Lq35_n1) annLq35_n1 := annOk_at ⟨(annOk_none _ _ _),⟨Gq35_n2_ok,(annOk_none _ _ _)⟩⟩
abbrev Iq35_n1 := (List (Int × Int × List UInt8 × Int × Int × Int × (Int × Int × Int × List UInt8) × List Int)) × (List Int) × (List Int) × (List Int)
abbrev Yq35_n1 := (Int) × (Int) × (Int) × (Int) × (List (Int × List UInt8)) × (List (Int × List UInt8)) × (List (Int × List UInt8)) × (List (Int × Int))
abbrev Vq35_n1 := (Int) × (Int) × (Int) × (Int) × (Int) × (List (Int × List UInt8)) × (List (Int × List UInt8)) × (List (Int × List UInt8)) × (List (Int × Int))
def Sq35_n1 : Iq35_n1 → Vq35_n1 → St := fun (t0,t1,o0_1,o1_0) (t10,o0_4,o0_5,o1_4,o1_5,o5,o8,o9,o10) => { env := [(0,.ro (.st (.pair (.int .i64) (.pair (.int .i64) (.pair .str (.pair (.int .i64) (.pair (.int .i64) (.pair (.int .i64) (.pair (.pair (.int .i64) (.pair (.int .i64) (.pair (.int .i64) .str))) (.list (.int .i64)))))))))) t0),(1,.ro (.int .i64) t1),(7,.ptr 0 0),(8,.ptr 1 0),(9,.ptr 2 0),(10,.int .i64 t10)],stk := [[]],H := [.cells [.own 3,.ro (.int .i64) o0_1,.own 4,.own 5,.int .i64 o0_4,.int .i64 o0_5],.cells [.ro (.int .i64) o1_0,.own 6,.own 7,.own 8,.int .i64 o1_4,.int .i64 o1_5],.cells [.ifc 27 (.ptr 0 0),.ifc 27 (.ptr 1 0),.int .i64 (0),.own 9,.own 10],.arr (.int .i64) ([]),.arr (.st (.pair (.int .i64) (.int .i64))) ([]),.arr (.st (.pair (.int .i64) .str)) o5,.arr (.int .i64) ([]),.arr (.st (.pair (.int .i64) (.int .i64))) ([]),.arr (.st (.pair (.int .i64) .str)) o8,.arr (.st (.pair (.int .i64) .str)) o9,.arr (.st (.pair (.int .i64) (.int .i64))) o10],blk := 12288 }
def decPq35_n1 (s : St) : Option {x : Iq35_n1 × Vq35_n1 // s = Sq35_n1 x.1 x.2} := match s with
  | { env := [(0,.ro (.st (.pair (.int .i64) (.pair (.int .i64) (.pair .str (.pair (.int .i64) (.pair (.int .i64) (.pair (.int .i64) (.pair (.pair (.int .i64) (.pair (.int .i64) (.pair (.int .i64) .str))) (.list (.int .i64)))))))))) t0),(1,.ro (.int .i64) t1),(7,.ptr 0 0),(8,.ptr 1 0),(9,.ptr 2 0),(10,.int .i64 t10)],stk := [[]],H := [.cells [.own 3,.ro (.int .i64) o0_1,.own 4,.own 5,.int .i64 o0_4,.int .i64 o0_5],.cells [.ro (.int .i64) o1_0,.own 6,.own 7,.own 8,.int .i64 o1_4,.int .i64 o1_5],.cells [.ifc 27 (.ptr 0 0),.ifc 27 (.ptr 1 0),.int .i64 r9,.own 9,.own 10],.arr (.int .i64) r10,.arr (.st (.pair (.int .i64) (.int .i64))) r11,.arr (.st (.pair (.int .i64) .str)) o5,.arr (.int .i64) r13,.arr (.st (.pair (.int .i64) (.int .i64))) r14,.arr (.st (.pair (.int .i64) .str)) o8,.arr (.st (.pair (.int .i64) .str)) o9,.arr (.st (.pair (.int .i64) (.int .i64))) o10],blk := 12288 } => if h9 : r9 = 0 then if h10 : r10 = [] then if h11 : r11 = [] then if h13 : r13 = [] then if h14 : r14 = [] then some ⟨((t0,t1,o0_1,o1_0),(t10,o0_4,o0_5,o1_4,o1_5,o5,o8,o9,o10)),by subst h9 h10 h11 h13 h14; rfl⟩ else none else none else none else none else none
  | _ => none
def decq35_n1 (s : St) : Option (Iq35_n1 × Vq35_n1) := pk (decPq35_n1 s)
theorem decq35_n1_ok (s : St) (x : Iq35_n1 × Vq35_n1) (h : decq35_n1 s = some x) : s = Sq35_n1 x.1 x.2 := pk_ok (o := decPq35_n1 s) h
def outq35_n1 : Iq35_n1 → (Ex → St → Ans) → Yq35_n1 → Ans := fun (t0,t1,o0_1,o1_0) K => unP fun o0_4_y => unP fun o0_5_y => unP fun o1_4_y => unP fun o1_5_y => unP fun o5_y => unP fun o8_y => unP fun o9_y o10_y => K (Ex.exit 0) { env := [(1,.ro (.int .i64) t1),(7,.ptr 0 0),(8,.ptr 1 0),(9,.ptr 2 0)],stk := [[]],H := [.cells [.own 3,.ro (.int .i64) o0_1,.own 4,.own 5,.int .i64 o0_4_y,.int .i64 o0_5_y],.cells [.ro (.int .i64) o1_0,.own 6,.own 7,.own 8,.int .i64 o1_4_y,.int .i64 o1_5_y],.cells [.ifc 27 (.ptr 0 0),.ifc 27 (.ptr 1 0),.int .i64 (0),.own 9,.own 10],.arr (.int .i64) ([]),.arr (.st (.pair (.int .i64) (.int .i64))) ([]),.arr (.st (.pair (.int .i64) .str)) o5_y,.arr (.int .i64) ([]),.arr (.st (.pair (.int .i64) (.int .i64))) ([]),.arr (.st (.pair (.int .i64) .str)) o8_y,.arr (.st (.pair (.int .i64) .str)) o9_y,.arr (.st (.pair (.int .i64) (.int .i64))) o10_y],blk := 12288 }
def stepq35_n1 {β : Type} : Iq35_n1 → Vq35_n1 → (Vq35_n1 → Option β) → (Yq35_n1 → Option β) → Option β := fun (t0,t1,o0_1,o1_0) (t10,o0_4,o0_5,o1_4,o1_5,o5,o8,o9,o10) next exit => (bif decide (t10 < (↑(List.length t0) : Int)) then (bindO (nodeDq35_n2 (t0,t1,t10,o0_1,o0_4,o0_5,o1_0,o1_4,o1_5,o5,o8,o9,o10)) (unP fun o0_4_2 => unP fun o0_5_2 => unP fun o1_4_2 => unP fun o1_5_2 => unP fun o5_2 => unP fun o8_2 => unP fun o9_2 o10_2 => (next (IntKind.wrap .i64 (t10 + (1 : Int)),o0_4_2,o0_5_2,o1_4_2,o1_5_2,o5_2,o8_2,o9_2,o10_2)))) else (exit (o0_4,o0_5,o1_4,o1_5,o5,o8,o9,o10)))
def stepDq35_n1 (i : Iq35_n1) (v : Vq35_n1) : Option (Vq35_n1 ⊕ Yq35_n1) := stepq35_n1 i v (fun v => some (.inl v)) (fun y => some (.inr y))
theorem stepq35_n1_nat (i : Iq35_n1) (v : Vq35_n1) (next : Vq35_n1 → Ans) (exit : Yq35_n1 → Ans) : stepq35_n1 i v next exit = bindO (stepDq35_n1 i v) (Sum.elim next exit) := by
  obtain ⟨t0,t1,o0_1,o1_0⟩ := i
  obtain ⟨t10,o0_4,o0_5,o1_4,o1_5,o5,o8,o9,o10⟩ := v
  simp only [stepDq35_n1,stepq35_n1,bindO_cond,bindO_assoc,bindO_none,bindO_pure,bindO_elim,bindO_unP,bindO_empty,Sum.elim_inl,Sum.elim_inr]
theorem stepq35_n1_ok (n : Nat) (i : Iq35_n1) (v : Vq35_n1) (K : Ex → St → Ans) : codeI Try.tab envq35 noHint (codeD Try.tab envq35 noHint 0 64) (n+1) 154 annLq35_n1 (.loop Lq35_n1) (weakP 0 (exk [1,7,8,9] [6] [(0,[1,7,8,9])]) K) (Sq35_n1 i v) = stepq35_n1 i v (fun v' => codeI Try.tab envq35 noHint (codeD Try.tab envq35 noHint 0 64) n 154 annLq35_n1 (.loop Lq35_n1) (weakP 0 (exk [1,7,8,9] [6] [(0,[1,7,8,9])]) K) (Sq35_n1 i v')) (fun y => outq35_n1 i K y) := by kernel_rfl
theorem GNq35_n1_ok : CSum Try.prog 154 (.loop Lq35_n1) (sumL decq35_n1 stepDq35_n1 outq35_n1) := csum_loop mixed tabOk envq35Ok 0 (exk [1,7,8,9] [6] [(0,[1,7,8,9])]) annLq35_n1_ok decq35_n1_ok stepq35_n1_ok stepq35_n1_nat
noncomputable def Gq35_n1 : (Ex → St → Ans) → St → Ans := (sumL decq35_n1 stepDq35_n1 outq35_n1)
theorem Gq35_n1_ok : CSum Try.prog 154 (.loop Lq35_n1) Gq35_n1 := GNq35_n1_ok
noncomputable def Lq35_n0 : Code := codeAt [1,1,0,0] bq35
noncomputable def annLq35_n0 : Ann := .none
theorem annLq35_n0_ok : AnnOk Try.prog 154 Lq35_n0 annLq35_n0 := (annOk_none _ _ _)
abbrev Iq35_n0 := (List (Int × Int × List UInt8 × Int × Int × Int × (Int × Int × Int × List UInt8) × List Int)) × (List Int) × (List Int)
abbrev Yq35_n0 := (Bool)
def Sq35_n0 : Iq35_n0 → St := fun (t0,t1,t2) => { env := [(0,.ro (.st (.pair (.int .i64) (.pair (.int .i64) (.pair .str (.pair (.int .i64) (.pair (.int .i64) (.pair (.int .i64) (.pair (.pair (.int .i64) (.pair (.int .i64) (.pair (.int .i64) .str))) (.list (.int .i64)))))))))) t0),(1,.ro (.int .i64) t1),(2,.ro (.int .i64) t2)],stk := [[]],H := [],blk := 12288 }
def decPq35_n0 (s : St) : Option {x : Iq35_n0 // s = Sq35_n0 x} := match s with
  | { env := [(0,.ro (.st (.pair (.int .i64) (.pair (.int .i64) (.pair .str (.pair (.int .i64) (.pair (.int .i64) (.pair (.int .i64) (.pair (.pair (.int .i64) (.pair (.int .i64) (.pair (.int .i64) .str))) (.list (.int .i64)))))))))) t0),(1,.ro (.int .i64) t1),(2,.ro (.int .i64) t2)],stk := [[]],H := [],blk := 12288 } => some ⟨(t0,t1,t2),rfl⟩
  | _ => none
def decq35_n0 (s : St) : Option Iq35_n0 := pk (decPq35_n0 s)
theorem decq35_n0_ok (s : St) (x : Iq35_n0) (h : decq35_n0 s = some x) : s = Sq35_n0 x := pk_ok (o := decPq35_n0 s) h
def outq35_n0 : Iq35_n0 → (Ex → St → Ans) → Yq35_n0 → Ans := fun (t0,t1,t2) K => fun t30_y => K (Ex.norm) { env := [(0,.ro (.st (.pair (.int .i64) (.pair (.int .i64) (.pair .str (.pair (.int .i64) (.pair (.int .i64) (.pair (.int .i64) (.pair (.pair (.int .i64) (.pair (.int .i64) (.pair (.int .i64) .str))) (.list (.int .i64)))))))))) t0),(1,.ro (.int .i64) t1),(2,.ro (.int .i64) t2),(30,.bool t30_y)],stk := [[]],H := [],blk := 12288 }
def nodeq35_n0 {β : Type} : Iq35_n0 → (Yq35_n0 → Option β) → Option β := fun (t0,t1,t2) exit => (bindO (fnDq46 (t0)) fun r => (bif r then (exit (true)) else (bif decide ((↑(List.length t1) : Int) > (200 : Int)) then (exit (true)) else (exit (decide ((↑(List.length t2) : Int) > (200 : Int)))))))
def nodeDq35_n0 (i : Iq35_n0) : Option Yq35_n0 := nodeq35_n0 i some
theorem nodeq35_n0_nat (i : Iq35_n0) (k : Yq35_n0 → Ans) : nodeq35_n0 i k = bindO (nodeDq35_n0 i) k := by
  obtain ⟨t0,t1,t2⟩ := i
  simp only [nodeDq35_n0,nodeq35_n0,bindO_cond,bindO_assoc,bindO_none,bindO_pure,bindO_elim,bindO_unP,bindO_empty]
theorem nodeq35_n0_ok (i : Iq35_n0) (K : Ex → St → Ans) : codeI Try.tab envq35 noHint (codeD Try.tab envq35 noHint 0 64) 70 154 annLq35_n0 Lq35_n0 (weakP 0 (exk [0,1,2,30] [6] []) K) (Sq35_n0 i) = nodeq35_n0 i (outq35_n0 i K) := by kernel_rfl
theorem GNq35_n0_ok : CSum Try.prog 154 Lq35_n0 (sumN decq35_n0 nodeDq35_n0 outq35_n0) := csum_node mixed tabOk envq35Ok 0 (exk [0,1,2,30] [6] []) annLq35_n0_ok decq35_n0_ok nodeq35_n0_ok nodeq35_n0_nat
noncomputable def Gq35_n0 : (Ex → St → Ans) → St → Ans := (sumN decq35_n0 nodeDq35_n0 outq35_n0)
theorem Gq35_n0_ok : CSum Try.prog 154 Lq35_n0 Gq35_n0 := GNq35_n0_ok
noncomputable def annq35 : Ann := (.seq .none (.seq .none (.seq (.seq (.cut 0 [0,1,2] Gq35_n0) .none) (.seq .none (.seq .none (.seq (.seq .none (.block (.cut 0 [0,1,7,8,9,10] Gq35_n1))) (.seq .none (.seq .none (.seq .none (.seq .none (.seq (.block (.cut 0 [1,7,8,9,11,12,13,14] Gq35_n3)) (.seq .none (.seq (.seq (.cut 0 [7,8,9,11,12,13,14,15] Gq35_n6) .none) (.seq .none (.seq (.cut 0 [7,9,11,12,16] Gq35_n7) .none)))))))))))))))
theorem annq35_ok : AnnOk Try.prog 154 bq35 annq35 := ⟨(annOk_none _ _ _),⟨(annOk_none _ _ _),⟨⟨Gq35_n0_ok,(annOk_none _ _ _)⟩,⟨(annOk_none _ _ _),⟨(annOk_none _ _ _),⟨⟨(annOk_none _ _ _),Gq35_n1_ok⟩,⟨(annOk_none _ _ _),⟨(annOk_none _ _ _),⟨(annOk_none _ _ _),⟨(annOk_none _ _ _),⟨Gq35_n3_ok,⟨(annOk_none _ _ _),⟨⟨Gq35_n6_ok,(annOk_none _ _ _)⟩,⟨(annOk_none _ _ _),⟨Gq35_n7_ok,(annOk_none _ _ _)⟩⟩⟩⟩⟩⟩⟩⟩⟩⟩⟩⟩⟩⟩⟩
abbrev Aq35 := (List (Int × Int × List UInt8 × Int × Int × Int × (Int × Int × Int × List UInt8) × List Int)) × (List Int) × (List Int)
abbrev Yq35 := (Bool)
def fnq35 {β : Type} : Aq35 → (Yq35 → Option β) → Option β := fun (a0,a1,a2) exit => (bindO (fnDq47 ()) fun r => (bif !r then (exit (false)) else (bindO (nodeDq35_n0 (a0,a1,a2)) fun t30 => (bif t30 then (exit (true)) else (bindO (fnDq32 (a2,(0 : Int),(0 : Int),a1,(0 : Int),(0 : Int),[],[],[],[],[],[])) fun _ => (bindO (loopD (stepDq35_n1 (a0,a1,a2,a1)) FUEL ((0 : Int),(0 : Int),(0 : Int),(0 : Int),(0 : Int),[],[],[],[])) (unP fun o0_4 => unP fun o0_5 => unP fun o1_4 => unP fun o1_5 => unP fun o5 => unP fun o8 => unP fun o9 o10 => (bindO (fnDq10 ((0 : Int),a2,o0_4,o0_5,a1,o1_4,o1_5,o9,o10,[],[],o5,[],[],o8)) fun o11 => (bindO (loopD (stepDq35_n3 (a1,(↑(List.length o5) : Int),a2,o0_4,o0_5,a1,o1_4,o1_5,o11,o5,o8,o9,o10)) FUEL ((0 : Int),(0 : Int))) (unP fun t13 t14 => (bindO (fnDq14 ((0 : Int),a2,o0_4,o0_5,a1,o1_4,o1_5,o9,o10,[],[],o5,[],[],o8)) (unP fun r_2 => unP fun o0_2 => unP fun o1_4_2 => unP fun o1_5_2 => unP fun o2_4 => unP fun o2_5 => unP fun o15 o18 => (bindO (nodeDq35_n6 ((↑(List.length o5) : Int),t13,t14,r_2,a2,o1_4_2,o1_5_2,a1,o2_4,o2_5,o0_2,o11,o15,o18,o9)) fun t128 => (bif t128 then (exit (false)) else (bindO (fnDq14 (o0_2,a2,o1_4_2,o1_5_2,a1,o2_4,o2_5,o9,[],[],[],o15,[],[],o18)) (unP fun r_3 => unP fun o0_2_2 => unP fun o1_4_3 => unP fun o1_5_3 => unP fun o2_4_2 => unP fun o2_5_2 => unP fun o15_2 o18_2 => (bindO (nodeDq35_n7 ((↑(List.length o5) : Int),r_3,a2,o1_4_3,o1_5_3,o0_2_2,o11,o15_2,a1,o2_4_2,o2_5_2,o9,o18_2)) fun t6 => (exit (t6)))))))))))))))))))
def fnDq35 (a : Aq35) : Option Yq35 := fnq35 a some
theorem fnq35_nat (a : Aq35) (k : Yq35 → Ans) : fnq35 a k = bindO (fnDq35 a) k := by
  obtain ⟨a0,a1,a2⟩ := a
  simp only [fnDq35,fnq35,bindO_cond,bindO_assoc,bindO_none,bindO_pure,bindO_elim,bindO_unP,bindO_empty]
def argsq35 : Aq35 → List AV × List AE.Obj := fun (a0,a1,a2) => ([.ro (.st (.pair (.int .i64) (.pair (.int .i64) (.pair .str (.pair (.int .i64) (.pair (.int .i64) (.pair (.int .i64) (.pair (.pair (.int .i64) (.pair (.int .i64) (.pair (.int .i64) .str))) (.list (.int .i64)))))))))) a0,.ro (.int .i64) a1,.ro (.int .i64) a2],[])
def decPAq35 (l : List AV) (H : List AE.Obj) : Option {a : Aq35 // (l,H) = argsq35 a} := match l,H with
  | [.ro (.st (.pair (.int .i64) (.pair (.int .i64) (.pair .str (.pair (.int .i64) (.pair (.int .i64) (.pair (.int .i64) (.pair (.pair (.int .i64) (.pair (.int .i64) (.pair (.int .i64) .str))) (.list (.int .i64)))))))))) a0,.ro (.int .i64) a1,.ro (.int .i64) a2],[] => some ⟨(a0,a1,a2),rfl⟩
  | _,_ => none
def decAq35 (l : List AV) (H : List AE.Obj) : Option Aq35 := pk (decPAq35 l H)
theorem decAq35_ok (l : List AV) (H : List AE.Obj) (a : Aq35) (h : decAq35 l H = some a) : (l,H) = argsq35 a := pk_ok (o := decPAq35 l H) h
def outq35 : Aq35 → (AV → List AE.Obj → Ans) → Yq35 → Ans := fun (a0,a1,a2) K => fun r_y => K (.bool r_y) []
theorem fnq35_ok (a : Aq35) (K : AV → List AE.Obj → Ans) : fnE Try.tab envq35 noHint 0 70 3 Try.f3.ntmps Try.f3.results.toList annq35 bq35 (argsq35 a).1 (argsq35 a).2 K = fnq35 a (outq35 a K) := by kernel_rfl
def vFq35 (a : Aq35) (K : AV → List AE.Obj → Ans) : Ans := bindO (fnDq35 a) fun y => outq35 a K y
def Fq35 : List AV → List AE.Obj → (AV → List AE.Obj → Ans) → Ans := fun l H K => bindO (decAq35 l H) fun a => vFq35 a K
theorem Fq35_ok : FuncOk Try.prog 3 Fq35 := func_mkD (hint := noHint) (d := 0) (n := 70) mixed tabOk envq35Ok Try.func3 (bodySome (by kernel_rfl)) (by decide +kernel) annq35_ok decAq35_ok fnq35_ok fnq35_nat
end Go.Proofs.R8
namespace Go.Proofs.R8
open Go Go.AE
abbrev OpT := Int × Int × List UInt8 × Int × Int × Int × (Int × Int × Int × List UInt8) × List Int
abbrev Sec := Int × List UInt8
theorem works44 : fnDq47 () = some true := by kernel_rfl

theorem great44 (l : List OpT) (hl : l.length ≤ 9223372036854775807) : ∃ b, fnDq46 l = some b ∧ (b = false → l.length ≤ 90) := by
  have key : ∃ y, loopD (stepDq46_n0 l) FUEL ((0 : Nat) : Int) = some y ∧ ((y = .inr () ∧ l.length ≤ 90) ∨ y = .inl ()) := by
    refine loopD_each l (fun j (_ : Unit) => (j : Int)) (fun j _ => j ≤ 90) _ ?_ ?_ (s0 := ()) (by omega) (by omega)
    · rintro j x s hj hlt h1
      simp only [stepDq46_n0, stepq46_n0, nodeDq46_n1, nodeq46_n1, nodeDq46_n2, nodeq46_n2, dec_true (show (j : Int) < (l.length : Int) by omega), cond_true, nth_of hj, bindO_pure]
      by_cases h90 : (j : Int) ≥ 90
      · right
        rw [dec_true h90]
        exact ⟨.inl (), rfl, .inr rfl⟩
      · rw [dec_false h90]
        by_cases hd : ((x.2.2.1.length : Nat) : Int) > 1000
        · right
          rw [dec_true hd]
          exact ⟨.inl (), rfl, .inr rfl⟩
        · left
          rw [dec_false hd]
          exact ⟨(), by simp only [cond_false, bindO_pure, Sum.elim_inr, wrap64_nat (show j < 9223372036854775807 by omega)], by omega⟩
    · rintro s h1
      simp only [stepDq46_n0, stepq46_n0, dec_false (show ¬ (l.length : Int) < (l.length : Int) by omega), cond_false]
      exact ⟨_, rfl, .inl ⟨rfl, h1⟩⟩
  obtain ⟨y, hy, h⟩ := key
  have hy' : loopD (stepDq46_n0 l) FUEL 0 = some y := hy
  simp only [fnDq46, fnq46, hy', bindO_pure]
  rcases h with ⟨rfl, h⟩ | rfl
  · exact ⟨false, rfl, fun _ => h⟩
  · exact ⟨true, rfl, fun e => by cases e⟩

theorem Sectors_refl (l : List Sec) (hl : l.length ≤ 9223372036854775806) : fnDq33 (l, l) = some true := by
  have key : ∃ y, loopD (stepDq33_n0 (l, l)) FUEL ((0 : Nat) : Int) = some y ∧ y = .inr () := by
    refine loopD_each l (fun j (_ : Unit) => (j : Int)) (fun _ _ => True) _ ?_ ?_ (s0 := ()) trivial (by omega)
    · rintro j x s hj hlt _
      left
      refine ⟨(), ?_, trivial⟩
      simp only [stepDq33_n0, stepq33_n0, nodeDq33_n1, nodeq33_n1, dec_true (show (j : Int) < (l.length : Int) by omega), cond_true, nth_of hj, bindO_pure, beq_self_eq_true, Bool.and_true, Bool.not_true, cond_false, wrap64_nat (show j < 9223372036854775807 by omega)]
    · rintro s _
      exact ⟨.inr (), by simp only [stepDq33_n0, stepq33_n0, nodeDq33_n1, nodeq33_n1, dec_false (show ¬ (l.length : Int) < (l.length : Int) by omega), cond_false, bindO_pure], rfl⟩
  obtain ⟨y, hy, rfl⟩ := key
  have hy' : loopD (stepDq33_n0 (l, l)) FUEL 0 = some (.inr ()) := hy
  have hne : ((l.length : Int) != (l.length : Int)) = false := by simp
  simp only [fnDq33, fnq33, hne, cond_false, hy', bindO_pure, Sum.elim_inr]

/-! ### The tapes -/
theorem next_a (hows : List Int) (n k : Nat) (hn : n ≤ 1000) (hk : k ≤ 1000) (w : List (Int × Int)) (o : List Sec) :
    ∃ how, fnDq44 (hows, (n : Int), (k : Int), [], w, o) = some (((k + 1 : Nat) : Int), how, 0, ((n + 1 : Nat) : Int), ((k + 1 : Nat) : Int)) := by
  have h0 : nodeDq44_n0 (decide (((n + 1 : Nat) : Int) ≤ (([] : List Int).length : Int)), hows, ((n + 1 : Nat) : Int), (k : Int), [], w, o) = some 0 := by
    rw [dec_false (by simp)]; rfl
  have hk1 : IntKind.wrap .i64 (((k + 1 : Nat) : Int) - 1) = (k : Int) := by rw [wrap64_self (by omega)]; omega
  have h1 : ∃ how, nodeDq44_n1 (decide (((k + 1 : Nat) : Int) ≤ (hows.length : Int)), hows, ((n + 1 : Nat) : Int), ((k + 1 : Nat) : Int), [], w, o, ((k + 1 : Nat) : Int)) = some how := by
    by_cases h : ((k + 1 : Nat) : Int) ≤ (hows.length : Int)
    · have hlt : k < hows.length := by omega
      refine ⟨hows[k], ?_⟩
      simp only [nodeDq44_n1, nodeq44_n1, dec_true h, cond_true, hk1, nth_of (List.getElem?_eq_getElem hlt), bindO_pure]
    · refine ⟨0, ?_⟩
      simp only [nodeDq44_n1, nodeq44_n1, dec_false h, cond_false]
  obtain ⟨how, h1⟩ := h1
  refine ⟨how, ?_⟩
  simp only [fnDq44, fnq44, wrap64_nat (show n < 9223372036854775807 by omega), wrap64_nat (show k < 9223372036854775807 by omega), h0, bindO_pure, h1]
  rfl
theorem write_a (e : Int) (d : List UInt8) (hows : List Int) (n k : Nat) (hn : n ≤ 1000) (hk : k ≤ 1000) (w : List (Int × Int)) (o : List Sec) (ho : o.length ≤ 1000) :
    ∃ how, fnDq41 (e, d, hows, (n : Int), (k : Int), [], w, o) = some (.inl (((k + 1 : Nat) : Int), how, 0, ((n + 1 : Nat) : Int), ((k + 1 : Nat) : Int), o ++ [(e, d)])) := by
  obtain ⟨how, h⟩ := next_a hows n k hn hk w o
  refine ⟨how, ?_⟩
  have hb1 : Nat.ble ((0 + o.length) * 24) 140737488355328 = true := ble_true (by omega)
  have hb2 : Nat.ble ((o.length + List.length [(e, d)]) * 24) 140737488355328 = true := ble_true (by simp only [List.length_singleton]; omega)
  have hn0 : ∀ a b, nodeDq41_n0 (e, d, 0, true, hows, a, b, [], w, o, ((k + 1 : Nat) : Int), how) = some (.inl (o ++ [(e, d)])) := by
    intro a b
    simp only [nodeDq41_n0, nodeq41_n0, cond_true, hb1, hb2]
  simp only [fnDq41, fnq41, h, bindO_pure, unP, show ((0 : Int) == 0) = true from rfl, hn0, Sum.elim_inl]
theorem cwrite (e : Int) (d : List UInt8) (hows : List Int) (n k : Nat) (hn : n ≤ 1000) (hk : k ≤ 1000) (errs : List Int) (b4 b5 : Int) (kept : List Sec) (hkept : kept.length ≤ 150) (wa : List (Int × Int)) (w : List (Int × Int)) (o : List Sec) (ho : o.length ≤ 1000) (x8 : List Int) (x9 : List (Int × Int)) (x10 : List Sec) :
    fnDq23 (e, d, 0, hows, (n : Int), (k : Int), errs, b4, b5, kept, wa, [], w, o, x8, x9, x10) = some (.inr (.inl (0, ((n + 1 : Nat) : Int), ((k + 1 : Nat) : Int), kept ++ [(e, d)], o ++ [(e, d)]))) := by
  obtain ⟨how, h⟩ := write_a e d hows n k hn hk w o ho
  have hb2 : Nat.ble ((kept.length + List.length [(e, d)]) * 24) 140737488355328 = true := ble_true (by simp only [List.length_singleton]; omega)
  have hs : fnDq29 (0, hows, (n : Int), (k : Int), errs, b4, b5, kept, wa, [], w, o, x8, x9, x10) = some (.inl ()) := rfl
  simp only [fnDq23, fnq23, hs, bindO_pure, Sum.elim_inl, dec_false (show ¬ (kept.length : Int) ≥ 200 by omega), cond_false, h, unP, show ((0 : Int) != 0) = false from rfl, hb2, cond_true]

theorem forget_ex (kept : List Sec) (hkept : kept.length ≤ 1000) (wa : List (Int × Int)) (hwa : wa.length ≤ 1000) (a : Int) (x1 : List Int) (n k : Int) (x2 : List Int) (b4 b5 : Int) (x5 : List Int) (x6 : List (Int × Int)) (x7 : List Sec) (x8 : List Int) (x9 : List (Int × Int)) (x10 : List Sec) :
    ∃ w', fnDq25 ((kept.length : Int), a, x1, n, k, x2, b4, b5, kept, wa, x5, x6, x7, x8, x9, x10) = some (w', []) := by
  have hz : IntKind.wrap .i64 ((kept.length : Int) - (kept.length : Int)) = 0 := by rw [wrap64_self (by omega)]; omega
  have hin : inR (kept.length : Int) (kept.length + 1) = true := inR_true (by omega)
  have hb : Nat.ble ((kept.length : Int).toNat + (kept.length - (kept.length : Int).toNat)) kept.length = true := ble_true (by omega)
  have hcp : List.take (List.length (List.replicate (Int.toNat 0) ((0 : Int), nilL UInt8))) (List.take (kept.length - (kept.length : Int).toNat) (List.drop ((kept.length : Int).toNat) kept)) ++ List.drop (List.length (List.take (kept.length - (kept.length : Int).toNat) (List.drop ((kept.length : Int).toNat) kept))) (List.replicate (Int.toNat 0) ((0 : Int), nilL UInt8)) = [] := by simp
  have key : ∀ o11, ∃ y, loopD (stepDq25_n0 ((kept.length : Int), (wa.length : Int), a, x1, n, k, x2, b4, b5, kept, x5, x6, x7, x8, x9, x10, o11)) FUEL (((0 : Nat) : Int), wa) = some y ∧ True := by
    intro o11
    refine loopD_inv (fun j v => ∃ o4 : List (Int × Int), v = ((j : Int), o4) ∧ o4.length = wa.length ∧ j ≤ wa.length) wa.length _ ?_ ⟨wa, rfl, rfl, Nat.zero_le _⟩ (by omega)
    rintro j v ⟨o4, rfl, ho4, hj⟩
    by_cases hlt : j < wa.length
    · left
      have hg : o4[(j : Int).toNat]? = some o4[j] := by rw [Int.toNat_natCast]; exact List.getElem?_eq_getElem (by omega)
      refine ⟨_, by simp only [stepDq25_n0, stepq25_n0, dec_true (show (j : Int) < (wa.length : Int) by omega), cond_true, inR_true (show 0 ≤ (j : Int) ∧ (j : Int) < (o4.length : Int) by omega), hg, bindO_pure, wrap64_nat (show j < 9223372036854775807 by omega)]; rfl, hlt, _, rfl, by rw [List.length_set]; exact ho4, hlt⟩
    · right
      exact ⟨o4, by simp only [stepDq25_n0, stepq25_n0, dec_false (show ¬ (j : Int) < (wa.length : Int) by omega), cond_false], trivial⟩
  obtain ⟨y, hy, _⟩ := key []
  have hy' : loopD (stepDq25_n0 ((kept.length : Int), (wa.length : Int), a, x1, n, k, x2, b4, b5, kept, x5, x6, x7, x8, x9, x10, [])) FUEL ((0 : Int), wa) = some y := hy
  refine ⟨y, ?_⟩
  simp only [fnDq25, fnq25, hz, show (decide ((0 : Int) ≤ 0) && decide ((0 : Int) ≤ 0) && decide (24 * (0 : Int) ≤ 281474976710656) && decide ((0 : Int) ≤ 9223372036854775807)) = true from rfl, cond_true, hin, hb, hcp, hy', bindO_pure]
theorem cflush (hows : List Int) (n k : Nat) (hn : n ≤ 1000) (hk : k ≤ 1000) (errs : List Int) (b4 b5 : Int) (kept : List Sec) (hkept : kept.length ≤ 150) (wa : List (Int × Int)) (hwa : wa.length ≤ 150) (w : List (Int × Int)) (o : List Sec) (x8 : List Int) (x9 : List (Int × Int)) (x10 : List Sec) :
    (∃ r wa', fnDq6 (0, hows, (n : Int), (k : Int), errs, b4, b5, kept, wa, [], w, o, x8, x9, x10) = some (.inl (r, ((n + 1 : Nat) : Int), ((k + 1 : Nat) : Int), b4, b5, wa')) ∧ wa'.length ≤ wa.length + 1) ∨
    ∃ wa', fnDq6 (0, hows, (n : Int), (k : Int), errs, b4, b5, kept, wa, [], w, o, x8, x9, x10) = some (.inr (((n + 1 : Nat) : Int), ((k + 1 : Nat) : Int), b4, b5, wa', [])) := by
  obtain ⟨how, h⟩ := next_a hows n k hn hk w o
  have hf : fnDq37 (hows, (n : Int), (k : Int), [], w, o) = some (((k + 1 : Nat) : Int), how, 0, ((n + 1 : Nat) : Int), ((k + 1 : Nat) : Int)) := by
    simp only [fnDq37, fnq37, h, bindO_pure, unP]
  have hs : fnDq29 (0, hows, (n : Int), (k : Int), errs, b4, b5, kept, wa, [], w, o, x8, x9, x10) = some (.inl ()) := rfl
  obtain ⟨wf, hforget⟩ := forget_ex kept (by omega) wa (by omega) 0 hows ((n + 1 : Nat) : Int) ((k + 1 : Nat) : Int) errs b4 b5 [] w o x8 x9 x10
  have hb2 : Nat.ble ((wa.length + List.length [(((k + 1 : Nat) : Int), (kept.length : Int))]) * 16) 140737488355328 = true := ble_true (by simp only [List.length_singleton]; omega)
  simp only [fnDq6, fnq6, hs, bindO_pure, Sum.elim_inl, hf, unP, show ((0 : Int) != 0) = false from rfl, cond_false]
  by_cases h2 : how = 2
  · subst h2
    simp only [show ((2 : Int) == 2) = true from rfl, cond_true, hforget, bindO_pure]
    exact .inr ⟨wf, rfl⟩
  · rw [show (how == 2) = false from dec_false h2, cond_false]
    by_cases h1 : how = 1
    · subst h1
      exact .inl ⟨_, wa, rfl, by omega⟩
    · rw [show (how == 1) = false from dec_false h1, cond_false, hb2, cond_true]
      exact .inl ⟨_, _, rfl, by simp⟩
theorem kept_eq (K : List Sec) (hK : K.length ≤ 1000) (a : Int) (x1 : List Int) (n k : Int) (x2 : List Int) (b4 b5 : Int) (wa : List (Int × Int)) (x5 : List Int) (x6 : List (Int × Int)) (x7 : List Sec) (x8 : List Int) (x9 : List (Int × Int)) (x10 : List Sec) :
    fnDq10 (a, x1, n, k, x2, b4, b5, K, wa, x5, x6, x7, x8, x9, x10) = some K := by
  have hc : (decide (0 ≤ (K.length : Int)) && decide ((K.length : Int) ≤ (K.length : Int)) && decide (24 * (K.length : Int) ≤ 281474976710656) && decide ((K.length : Int) ≤ 9223372036854775807)) = true := by
    rw [dec_true (show 0 ≤ (K.length : Int) by omega), dec_true (show (K.length : Int) ≤ (K.length : Int) by omega), dec_true (show 24 * (K.length : Int) ≤ 281474976710656 by omega), dec_true (show (K.length : Int) ≤ 9223372036854775807 by omega)]; rfl
  simp only [fnDq10, fnq10, hc, cond_true, Int.toNat_natCast, List.length_replicate, List.take_length]
  rw [List.drop_eq_nil_of_le (by simp), List.append_nil]

/-! ### Where the errors begin -/
def clean (errs : List Int) (q : Nat) : Prop := ∀ i e, i < q → errs[i]? = some e → e = 0
def stops (errs : List Int) (m q : Nat) (want : Int) : Prop := q ≤ m ∧ clean errs q ∧ (want = 0 ∧ q = m ∨ want ≠ 0 ∧ q < m ∧ errs[q]? = some want)
theorem stops_ex (errs : List Int) : ∀ m, ∃ q want, stops errs m q want
  | 0 => ⟨0, 0, by refine ⟨Nat.le_refl _, fun i e h => by omega, .inl ⟨rfl, rfl⟩⟩⟩
  | m + 1 => by
    obtain ⟨q, want, h1, h2, h3⟩ := stops_ex errs m
    rcases h3 with ⟨rfl, rfl⟩ | ⟨h3, h4, h5⟩
    · cases hg : errs[q]? with
      | none => 
        refine ⟨q + 1, 0, Nat.le_refl _, fun i e hi he => ?_, .inl ⟨rfl, rfl⟩⟩
        by_cases hq : i = q
        · subst hq; rw [hg] at he; cases he
        · exact h2 i e (by omega) he
      | some x =>
        by_cases hx : x = 0
        · subst hx
          refine ⟨q + 1, 0, Nat.le_refl _, fun i e hi he => ?_, .inl ⟨rfl, rfl⟩⟩
          by_cases hq : i = q
          · subst hq; rw [hg] at he; cases he; rfl
          · exact h2 i e (by omega) he
        · exact ⟨q, x, by omega, h2, .inr ⟨hx, by omega, hg⟩⟩
    · exact ⟨q, want, by omega, h2, .inr ⟨h3, by omega, h5⟩⟩
theorem want_loop (errs : List Int) (K : List Sec) (hK : K.length ≤ 1000) {q : Nat} {want : Int} (hst : stops errs K.length q want) (a1 : Int) (x1 : List Int) (n k : Int) (x2 : List Int) (b4 b5 : Int) (x3 x4 x5 : List Sec) (x6 : List (Int × Int)) :
    loopD (stepDq35_n3 (errs, a1, x1, n, k, x2, b4, b5, K, x3, x4, x5, x6)) FUEL (0, 0) = some (want, (q : Int)) := by
  obtain ⟨hq, hcl, hend⟩ := hst
  have key : ∃ y, loopD (stepDq35_n3 (errs, a1, x1, n, k, x2, b4, b5, K, x3, x4, x5, x6)) FUEL ((0 : Int), ((0 : Nat) : Int)) = some y ∧ y = (want, (q : Int)) := by
    refine loopD_inv (fun j v => (j ≤ q ∧ v = (0, (j : Int))) ∨ (j = q + 1 ∧ v = (want, (q : Int)) ∧ want ≠ 0)) (q + 1) _ ?_ (.inl ⟨Nat.zero_le _, rfl⟩) (by omega)
    rintro j v (⟨hj, rfl⟩ | ⟨rfl, rfl, hw⟩)
    · by_cases hlt : j < K.length
      · have h4 : nodeDq35_n4 (errs, a1, 0, (j : Int), x1, n, k, x2, b4, b5, K, x3, x4, x5, x6) = some true := by
          simp only [nodeDq35_n4, nodeq35_n4, dec_true (show (j : Int) < (K.length : Int) by omega), cond_true]; rfl
        have h5 : nodeDq35_n5 (errs, a1, 0, (j : Int), decide ((j : Int) < (errs.length : Int)), x1, n, k, x2, b4, b5, K, x3, x4, x5, x6) = some (if j < q then 0 else want) := by
          by_cases he : j < errs.length
          · have hg := List.getElem?_eq_getElem he
            simp only [nodeDq35_n5, nodeq35_n5, dec_true (show (j : Int) < (errs.length : Int) by omega), cond_true, nth_of hg, bindO_pure]
            by_cases hjq : j < q
            · rw [if_pos hjq, hcl j _ hjq hg]
            · rw [if_neg hjq]
              obtain rfl : j = q := by omega
              rcases hend with ⟨h, h'⟩ | ⟨h, h', h''⟩
              · omega
              · rw [hg] at h''; exact h''
          · simp only [nodeDq35_n5, nodeq35_n5, dec_false (show ¬ (j : Int) < (errs.length : Int) by omega), cond_false]
            by_cases hjq : j < q
            · rw [if_pos hjq]
            · obtain rfl : j = q := by omega
              rcases hend with ⟨h, h'⟩ | ⟨h, h', h''⟩
              · omega
              · rw [List.getElem?_eq_none (by omega)] at h''; cases h''
        left
        simp only [stepDq35_n3, stepq35_n3, h4, bindO_pure, cond_true, h5]
        by_cases hjq : j < q
        · rw [if_pos hjq]
          exact ⟨(0, ((j + 1 : Nat) : Int)), by simp only [show ((0 : Int) == 0) = true from rfl, cond_true, wrap64_nat (show j < 9223372036854775807 by omega)], by omega, .inl ⟨by omega, rfl⟩⟩
        · rw [if_neg hjq]
          obtain rfl : j = q := by omega
          have hw : want ≠ 0 := by
            rcases hend with ⟨h, h'⟩ | ⟨h, h', h''⟩
            · omega
            · exact h
          exact ⟨(want, (j : Int)), by simp only [show (want == 0) = false from dec_false hw, cond_false], by omega, .inr ⟨rfl, rfl, hw⟩⟩
      · right
        have hjq : j = q := by omega
        subst hjq
        have hw : want = 0 := by
          rcases hend with ⟨h, h'⟩ | ⟨h, h', h''⟩
          · exact h
          · omega
        subst hw
        have h4 : nodeDq35_n4 (errs, a1, 0, (j : Int), x1, n, k, x2, b4, b5, K, x3, x4, x5, x6) = some false := by
          simp only [nodeDq35_n4, nodeq35_n4, dec_false (show ¬ (j : Int) < (K.length : Int) by omega), cond_false]
        exact ⟨_, by simp only [stepDq35_n3, stepq35_n3, h4, bindO_pure, cond_false], rfl⟩
    · right
      have h4 : nodeDq35_n4 (errs, a1, want, (q : Int), x1, n, k, x2, b4, b5, K, x3, x4, x5, x6) = some false := by
        simp only [nodeDq35_n4, nodeq35_n4, show (want == 0) = false from dec_false hw]
        cases decide ((q : Int) < (K.length : Int)) <;> rfl
      exact ⟨_, by simp only [stepDq35_n3, stepq35_n3, h4, bindO_pure, cond_false], rfl⟩
  obtain ⟨y, hy, rfl⟩ := key
  exact hy
end Go.Proofs.R8
namespace Go.Proofs.R8
open Go Go.AE
theorem next_b (errs : List Int) (n k : Nat) (hn : n ≤ 1000) (hk : k ≤ 1000) (w : List (Int × Int)) (o : List Sec) :
    fnDq45 (errs, (n : Int), (k : Int), [], w, o) = some (if (errs[n]?).getD 0 = 0 then (((k + 1 : Nat) : Int), 0, 0, ((n + 1 : Nat) : Int), ((k + 1 : Nat) : Int)) else (0, 0, (errs[n]?).getD 0, ((n + 1 : Nat) : Int), (k : Int))) := by
  have hn1 : IntKind.wrap .i64 (((n + 1 : Nat) : Int) - 1) = (n : Int) := by rw [wrap64_self (by omega)]; omega
  have h0 : nodeDq45_n0 (decide (((n + 1 : Nat) : Int) ≤ (errs.length : Int)), errs, ((n + 1 : Nat) : Int), (k : Int), [], w, o) = some ((errs[n]?).getD 0) := by
    by_cases h : ((n + 1 : Nat) : Int) ≤ (errs.length : Int)
    · have hlt : n < errs.length := by omega
      simp only [nodeDq45_n0, nodeq45_n0, dec_true h, cond_true, hn1, nth_of (List.getElem?_eq_getElem hlt), bindO_pure]
      rw [List.getElem?_eq_getElem hlt]; rfl
    · simp only [nodeDq45_n0, nodeq45_n0, dec_false h, cond_false]
      rw [List.getElem?_eq_none (by omega)]; rfl
  have h1 : nodeDq45_n1 (decide (((k + 1 : Nat) : Int) ≤ (([] : List Int).length : Int)), errs, ((n + 1 : Nat) : Int), ((k + 1 : Nat) : Int), [], w, o, ((k + 1 : Nat) : Int)) = some 0 := by
    rw [dec_false (by simp)]; rfl
  simp only [fnDq45, fnq45, wrap64_nat (show n < 9223372036854775807 by omega), wrap64_nat (show k < 9223372036854775807 by omega), h0, bindO_pure, h1]
  by_cases he : (errs[n]?).getD 0 = 0
  · rw [if_pos he, show ((errs[n]?).getD 0 != 0) = false from by rw [he]; rfl, cond_false]
  · rw [if_neg he, show ((errs[n]?).getD 0 != 0) = true from by rw [ibne, dec_false he]; rfl, cond_true]
theorem write_b_ok (e : Int) (d : List UInt8) (errs : List Int) (n k : Nat) (hn : n ≤ 1000) (hk : k ≤ 1000) (w : List (Int × Int)) (o : List Sec) (ho : o.length ≤ 1000) (he : (errs[n]?).getD 0 = 0) :
    fnDq42 (e, d, errs, (n : Int), (k : Int), [], w, o) = some (.inl (((k + 1 : Nat) : Int), 0, 0, ((n + 1 : Nat) : Int), ((k + 1 : Nat) : Int), o ++ [(e, d)])) := by
  have hb1 : Nat.ble ((0 + o.length) * 24) 140737488355328 = true := ble_true (by omega)
  have hb2 : Nat.ble ((o.length + List.length [(e, d)]) * 24) 140737488355328 = true := ble_true (by simp only [List.length_singleton]; omega)
  simp only [fnDq42, fnq42, next_b errs n k hn hk w o, if_pos he, bindO_pure, unP, show ((0 : Int) == 0) = true from rfl, nodeDq42_n0, nodeq42_n0, cond_true, hb1, hb2, Sum.elim_inl]
theorem write_b_err (e : Int) (d : List UInt8) (errs : List Int) (n k : Nat) (hn : n ≤ 1000) (hk : k ≤ 1000) (w : List (Int × Int)) (o : List Sec) {x : Int} (he : errs[n]? = some x) (hx : x ≠ 0) :
    fnDq42 (e, d, errs, (n : Int), (k : Int), [], w, o) = some (.inr (0, 0, x, ((n + 1 : Nat) : Int), (k : Int))) := by
  have hg : (errs[n]?).getD 0 = x := by rw [he]; rfl
  have hnx : fnDq45 (errs, (n : Int), (k : Int), [], w, o) = some (0, 0, x, ((n + 1 : Nat) : Int), (k : Int)) := by
    rw [next_b errs n k hn hk w o, hg, if_neg hx]
  simp only [fnDq42, fnq42, hnx, bindO_pure, unP, show (x == 0) = false from dec_false hx, nodeDq42_n0, nodeq42_n0, cond_false, Sum.elim_inr]
theorem take_next {α : Type} {l : List α} {j : Nat} {x : α} (h : l[j]? = some x) : l.take (j + 1) = l.take j ++ [x] := by
  rw [List.take_add_one, h]; rfl
/-- Over to the other one: up to the first error. -/
theorem over_b (hows errs : List Int) (n k : Nat) (K aW : List Sec) (hK : K.length ≤ 900) {q : Nat} {want : Int} (hst : stops errs K.length q want) (wa : List (Int × Int)) (w9 w5 : List (Int × Int)) :
    ∃ b4 b5, fnDq14 (0, hows, (n : Int), (k : Int), errs, 0, 0, K, wa, [], w5, aW, [], w9, []) = some (want, 1, (n : Int), (k : Int), b4, b5, aW, K.take q) := by
  have h1 : IntKind.wrap IntKind.i64 (1 - 0) = 1 := rfl
  have hs : fnDq29 (1, hows, (n : Int), (k : Int), errs, 0, 0, K, [], [], w5, aW, [], w9, []) = some (.inr ()) := rfl
  obtain ⟨hq, hcl, hend⟩ := hst
  have key : ∃ y, loopD (stepDq14_n0v1 ((K.length : Int), 1, hows, (n : Int), (k : Int), errs, K, [], w5, aW, [], w9)) FUEL (((0 : Nat) : Int), ((0 : Nat) : Int), ((0 : Nat) : Int), []) = some y ∧
      ∃ b4 b5, y = .inl (want, b4, b5, K.take q) ∨ (want = 0 ∧ y = .inr (b4, b5, K.take q)) := by
    refine loopD_inv (fun j v => j ≤ q ∧ v = ((j : Int), (j : Int), (j : Int), K.take j)) q _ ?_ ⟨Nat.zero_le _, rfl⟩ (by omega)
    rintro j v ⟨hj, rfl⟩
    by_cases hlt : j < K.length
    · have hg : K[(j : Int).toNat]? = some K[j] := by rw [Int.toNat_natCast]; exact List.getElem?_eq_getElem hlt
      have hgj : K[j]? = some K[j] := List.getElem?_eq_getElem hlt
      by_cases hjq : j < q
      · left
        have he : (errs[j]?).getD 0 = 0 := by
          cases hx : errs[j]? with
          | none => rfl
          | some x => exact hcl j x hjq hx
        refine ⟨(((j + 1 : Nat) : Int), ((j + 1 : Nat) : Int), ((j + 1 : Nat) : Int), K.take (j + 1)), ?_, hjq, by omega, rfl⟩
        simp only [stepDq14_n0v1, stepq14_n0v1, dec_true (show (j : Int) < (K.length : Int) by omega), cond_true, inR_true (show 0 ≤ (j : Int) ∧ (j : Int) < (K.length : Int) by omega), hg, bindO_pure,
          write_b_ok K[j].1 K[j].2 errs j j (by omega) (by omega) w9 (K.take j) (by rw [List.length_take]; omega) he, Sum.elim_inl, unP, show ((0 : Int) != 0) = false from rfl, cond_false, wrap64_nat (show j < 9223372036854775807 by omega)]
        rw [take_next hgj]
      · right
        obtain rfl : j = q := by omega
        rcases hend with ⟨h, h'⟩ | ⟨hw, h', h''⟩
        · omega
        refine ⟨.inl (want, ((j + 1 : Nat) : Int), (j : Int), K.take j), ?_, _, _, .inl rfl⟩
        simp only [stepDq14_n0v1, stepq14_n0v1, dec_true (show (j : Int) < (K.length : Int) by omega), cond_true, inR_true (show 0 ≤ (j : Int) ∧ (j : Int) < (K.length : Int) by omega), hg, bindO_pure,
          write_b_err K[j].1 K[j].2 errs j j (by omega) (by omega) w9 (K.take j) h'' hw, Sum.elim_inr, unP, show (want != 0) = true from by rw [ibne, dec_false hw]; rfl]
    · right
      have hjq : j = q := by omega
      subst hjq
      have hw : want = 0 := by
        rcases hend with ⟨h, h'⟩ | ⟨h, h', h''⟩
        · exact h
        · omega
      exact ⟨.inr ((j : Int), (j : Int), K.take j), by simp only [stepDq14_n0v1, stepq14_n0v1, dec_false (show ¬ (j : Int) < (K.length : Int) by omega), cond_false], _, _, .inr ⟨hw, rfl⟩⟩
  obtain ⟨y, hy, b4, b5, hy2⟩ := key
  have hy' : loopD (stepDq14_n0v1 ((K.length : Int), 1, hows, (n : Int), (k : Int), errs, K, [], w5, aW, [], w9)) FUEL (0, 0, 0, []) = some y := hy
  refine ⟨b4, b5, ?_⟩
  simp only [fnDq14, fnq14, h1, hs, bindO_pure, Sum.elim_inr, hy']
  rcases hy2 with rfl | ⟨rfl, rfl⟩
  · rfl
  · rfl
/-- And back: all of it. -/
theorem over_a (hows errs : List Int) (n k : Nat) (hn : n ≤ 90) (hk : k ≤ 90) (b4 b5 : Int) (K aW bW : List Sec) (hK : K.length ≤ 150) (haW : aW.length ≤ 150) (wa : List (Int × Int)) (w5 : List (Int × Int)) (x8 : List Int) (w9 : List (Int × Int)) :
    ∃ a4 a5, fnDq14 (1, hows, (n : Int), (k : Int), errs, b4, b5, K, wa, [], w5, aW, x8, w9, bW) = some (0, 0, a4, a5, b4, b5, aW ++ K, bW) := by
  have h1 : IntKind.wrap IntKind.i64 (1 - 1) = 0 := rfl
  have hs : fnDq29 (0, hows, (n : Int), (k : Int), errs, b4, b5, K, [], [], w5, aW, x8, w9, bW) = some (.inl ()) := rfl
  have key : ∃ y, loopD (stepDq14_n0 ((K.length : Int), 0, hows, errs, b4, b5, K, [], w5, x8, w9, bW)) FUEL (((0 : Nat) : Int), ((n + 0 : Nat) : Int), ((k + 0 : Nat) : Int), aW ++ K.take 0) = some y ∧
      ∃ a4 a5, y = .inr (a4, a5, aW ++ K) := by
    refine loopD_inv (fun j v => j ≤ K.length ∧ v = ((j : Int), ((n + j : Nat) : Int), ((k + j : Nat) : Int), aW ++ K.take j)) K.length _ ?_ ⟨Nat.zero_le _, rfl⟩ (by omega)
    rintro j v ⟨hj, rfl⟩
    by_cases hlt : j < K.length
    · left
      have hg : K[(j : Int).toNat]? = some K[j] := by rw [Int.toNat_natCast]; exact List.getElem?_eq_getElem hlt
      have hgj : K[j]? = some K[j] := List.getElem?_eq_getElem hlt
      obtain ⟨how, hw⟩ := write_a K[j].1 K[j].2 hows (n + j) (k + j) (by omega) (by omega) w5 (aW ++ K.take j) (by rw [List.length_append, List.length_take]; omega)
      refine ⟨(((j + 1 : Nat) : Int), ((n + (j + 1) : Nat) : Int), ((k + (j + 1) : Nat) : Int), aW ++ K.take (j + 1)), ?_, hlt, by omega, rfl⟩
      simp only [stepDq14_n0, stepq14_n0, dec_true (show (j : Int) < (K.length : Int) by omega), cond_true, inR_true (show 0 ≤ (j : Int) ∧ (j : Int) < (K.length : Int) by omega), hg, bindO_pure,
        hw, Sum.elim_inl, unP, show ((0 : Int) != 0) = false from rfl, cond_false, wrap64_nat (show j < 9223372036854775807 by omega)]
      rw [take_next hgj, List.append_assoc]
      rfl
    · right
      obtain rfl : j = K.length := by omega
      exact ⟨.inr (((n + K.length : Nat) : Int), ((k + K.length : Nat) : Int), aW ++ K), by simp only [stepDq14_n0, stepq14_n0, dec_false (show ¬ (K.length : Int) < (K.length : Int) by omega), cond_false, List.take_length], _, _, rfl⟩
  obtain ⟨y, hy, a4, a5, rfl⟩ := key
  have hy' : loopD (stepDq14_n0 ((K.length : Int), 0, hows, errs, b4, b5, K, [], w5, x8, w9, bW)) FUEL (0, (n : Int), (k : Int), aW) = some (.inr (a4, a5, aW ++ K)) := by
    have e : aW ++ K.take 0 = aW := by simp
    rw [e] at hy
    exact hy
  refine ⟨a4, a5, ?_⟩
  simp only [fnDq14, fnq14, h1, hs, bindO_pure, Sum.elim_inl, hy', Sum.elim_inr, unP]
/-- What is done at the first one. -/
theorem acts (l : List OpT) (hl : l.length ≤ 90) (errs hows : List Int) :
    ∃ (n k : Nat) (aW K : List Sec) (wa : List (Int × Int)), n ≤ 90 ∧ k ≤ 90 ∧ aW.length ≤ 90 ∧ K.length ≤ 90 ∧ wa.length ≤ 90 ∧
      loopD (stepDq35_n1 (l, errs, hows, errs)) FUEL (0, 0, 0, 0, 0, [], [], [], []) = some ((n : Int), (k : Int), 0, 0, aW, [], K, wa) := by
  have key : ∃ y, loopD (stepDq35_n1 (l, errs, hows, errs)) FUEL (((0 : Nat) : Int), ((0 : Nat) : Int), ((0 : Nat) : Int), 0, 0, [], [], [], []) = some y ∧
      ∃ (n k : Nat) (aW K : List Sec) (wa : List (Int × Int)), n ≤ 90 ∧ k ≤ 90 ∧ aW.length ≤ 90 ∧ K.length ≤ 90 ∧ wa.length ≤ 90 ∧ y = ((n : Int), (k : Int), 0, 0, aW, [], K, wa) := by
    refine loopD_inv (fun j v => j ≤ l.length ∧ ∃ (n k : Nat) (aW K : List Sec) (wa : List (Int × Int)), n ≤ j ∧ k ≤ j ∧ aW.length ≤ j ∧ K.length ≤ j ∧ wa.length ≤ j ∧ v = ((j : Int), (n : Int), (k : Int), 0, 0, aW, [], K, wa)) l.length _ ?_
      ⟨Nat.zero_le _, 0, 0, [], [], [], Nat.le_refl _, Nat.le_refl _, Nat.le_refl _, Nat.le_refl _, Nat.le_refl _, rfl⟩ (by omega)
    rintro j v ⟨hj, n, k, aW, K, wa, h1, h2, h3, h4, h5, rfl⟩
    by_cases hlt : j < l.length
    · left
      have hg := List.getElem?_eq_getElem hlt
      generalize l[j] = x at hg
      have hn2 : ∃ (n' k' : Nat) (aW' K' : List Sec) (wa' : List (Int × Int)), n' ≤ j + 1 ∧ k' ≤ j + 1 ∧ aW'.length ≤ j + 1 ∧ K'.length ≤ j + 1 ∧ wa'.length ≤ j + 1 ∧
          nodeDq35_n2 (l, errs, (j : Int), hows, (n : Int), (k : Int), errs, 0, 0, aW, [], K, wa) = some ((n' : Int), (k' : Int), 0, 0, aW', [], K', wa') := by
        by_cases hw : x.1 < 2
        · refine ⟨n + 1, k + 1, aW ++ [(x.2.1, x.2.2.1)], K ++ [(x.2.1, x.2.2.1)], wa, by omega, by omega, by simp; omega, by simp; omega, by omega, ?_⟩
          simp only [nodeDq35_n2, nodeq35_n2, nth_of hg, bindO_pure, dec_true hw, cond_true, cwrite x.2.1 x.2.2.1 hows n k (by omega) (by omega) errs 0 0 K (by omega) wa [] aW (by omega) [] [] [], Sum.elim_inr, Sum.elim_inl, unP]
        · by_cases hf : x.1 = 2
          · rcases cflush hows n k (by omega) (by omega) errs 0 0 K (by omega) wa (by omega) [] aW [] [] [] with ⟨r, wa', hc, hle⟩ | ⟨wa', hc⟩
            · refine ⟨n + 1, k + 1, aW, K, wa', by omega, by omega, by omega, by omega, by omega, ?_⟩
              simp only [nodeDq35_n2, nodeq35_n2, nth_of hg, bindO_pure, dec_false hw, cond_false, show (x.1 == 2) = true from dec_true hf, cond_true, hc, Sum.elim_inl, unP]
            · refine ⟨n + 1, k + 1, aW, [], [], by omega, by omega, by omega, by simp, by simp, ?_⟩
              simp only [nodeDq35_n2, nodeq35_n2, nth_of hg, bindO_pure, dec_false hw, cond_false, show (x.1 == 2) = true from dec_true hf, cond_true, hc, Sum.elim_inr, unP]
          · refine ⟨n, k, aW, K, wa, by omega, by omega, by omega, by omega, by omega, ?_⟩
            simp only [nodeDq35_n2, nodeq35_n2, nth_of hg, bindO_pure, dec_false hw, cond_false, show (x.1 == 2) = false from dec_false hf]
      obtain ⟨n', k', aW', K', wa', g1, g2, g3, g4, g5, hn2⟩ := hn2
      refine ⟨(((j + 1 : Nat) : Int), (n' : Int), (k' : Int), 0, 0, aW', [], K', wa'), ?_, hlt, hlt, n', k', aW', K', wa', g1, g2, g3, g4, g5, rfl⟩
      simp only [stepDq35_n1, stepq35_n1, dec_true (show (j : Int) < (l.length : Int) by omega), cond_true, hn2, bindO_pure, unP, wrap64_nat (show j < 9223372036854775807 by omega)]
    · right
      exact ⟨((n : Int), (k : Int), 0, 0, aW, [], K, wa), by simp only [stepDq35_n1, stepq35_n1, dec_false (show ¬ (j : Int) < (l.length : Int) by omega), cond_false], n, k, aW, K, wa, by omega, by omega, by omega, by omega, by omega, rfl⟩
  obtain ⟨y, hy, n, k, aW, K, wa, h1, h2, h3, h4, h5, rfl⟩ := key
  exact ⟨n, k, aW, K, wa, h1, h2, h3, h4, h5, hy⟩

theorem ClientOver_true (l : List OpT) (errs hows : List Int) (hl : l.length ≤ 9223372036854775807) : fnDq35 (l, errs, hows) = some true := by
  obtain ⟨b, hb, hb90⟩ := great44 l hl
  have h0 : ∃ r, nodeDq35_n0 (l, errs, hows) = some r ∧ (r = false → l.length ≤ 90) := by
    simp only [nodeDq35_n0, nodeq35_n0, hb, bindO_pure]
    cases b with
    | true => exact ⟨true, rfl, fun e => by cases e⟩
    | false =>
      rw [cond_false]
      cases decide ((errs.length : Int) > 200)
      · exact ⟨_, rfl, fun _ => hb90 rfl⟩
      · exact ⟨_, rfl, fun e => by cases e⟩
  obtain ⟨r, h0, hr⟩ := h0
  cases r with
  | true => simp only [fnDq35, fnq35, works44, h0, bindO_pure, Bool.not_true, cond_false, cond_true]
  | false =>
    have h90 := hr rfl
    obtain ⟨n, k, aW, K, wa, h1, h2, h3, h4, h5, hloop⟩ := acts l h90 errs hows
    obtain ⟨q, want, hst⟩ := stops_ex errs K.length
    have hq := hst.1
    have hnew : fnDq32 (hows, 0, 0, errs, 0, 0, [], [], [], [], [], []) = some () := rfl
    have hk1 := kept_eq K (by omega) 0 hows (n : Int) (k : Int) errs 0 0 wa [] [] aW [] [] []
    have hw := want_loop errs K (by omega) hst (aW.length : Int) hows (n : Int) (k : Int) errs 0 0 aW [] K wa
    obtain ⟨b4, b5, hover⟩ := over_b hows errs n k K aW (by omega) hst wa [] []
    obtain ⟨a4, a5, hback⟩ := over_a hows errs n k (by omega) (by omega) b4 b5 K aW (K.take q) (by omega) (by omega) [] [] [] []
    have hn6 : nodeDq35_n6 ((aW.length : Int), want, (q : Int), want, hows, (n : Int), (k : Int), errs, b4, b5, 1, K, aW, K.take q, K) = some false := by
      have hk2 := kept_eq K (by omega) 1 hows (n : Int) (k : Int) errs b4 b5 [] [] [] aW [] [] (K.take q)
      have hat : fnDq2 (1, hows, (n : Int), (k : Int), errs, b4, b5, K, [], [], [], aW, [], [], K.take q) = some () := rfl
      have hs1 : fnDq33 (K.take q, List.take ((q : Int).toNat - 0) (List.drop 0 K)) = some true := by
        rw [Int.toNat_natCast, Nat.sub_zero, List.drop_zero]
        exact Sectors_refl _ (by rw [List.length_take]; omega)
      simp only [nodeDq35_n6, nodeq35_n6, show (want != want) = false from by simp, cond_false, hat, bindO_pure, show ((1 : Int) != 1) = false from rfl, inR_true (show 0 ≤ (q : Int) ∧ (q : Int) < ((K.length + 1 : Nat) : Int) by omega), cond_true,
        ble_true (show 0 + ((q : Int).toNat - 0) ≤ K.length by omega), hs1, Bool.not_true, hk2, Sectors_refl K (by omega)]
    have hn7 : nodeDq35_n7 ((aW.length : Int), 0, hows, a4, a5, 0, K, aW ++ K, errs, b4, b5, K, K.take q) = some true := by
      have hk2 := kept_eq K (by omega) 0 hows a4 a5 errs b4 b5 [] [] [] (aW ++ K) [] [] (K.take q)
      have hat : fnDq2 (0, hows, a4, a5, errs, b4, b5, K, [], [], [], aW ++ K, [], [], K.take q) = some () := rfl
      have hs1 : fnDq33 (List.take ((aW ++ K).length - (aW.length : Int).toNat) (List.drop ((aW.length : Int).toNat) (aW ++ K)), K) = some true := by
        rw [Int.toNat_natCast, List.drop_left, List.length_append, Nat.add_sub_cancel_left, List.take_length]
        exact Sectors_refl _ (by omega)
      have hla : (aW ++ K).length = aW.length + K.length := List.length_append
      simp only [nodeDq35_n7, nodeq35_n7, show ((0 : Int) == 0) = true from rfl, cond_true, hat, bindO_pure, inR_true (show 0 ≤ (aW.length : Int) ∧ (aW.length : Int) < (((aW ++ K).length + 1 : Nat) : Int) by omega),
        ble_true (show (aW.length : Int).toNat + ((aW ++ K).length - (aW.length : Int).toNat) ≤ (aW ++ K).length by omega), hs1, hk2, Sectors_refl K (by omega)]
    simp only [fnDq35, fnq35, works44, h0, bindO_pure, Bool.not_true, cond_false, hnew, hloop, unP, hk1, hw, hover, hn6, hback, hn7]
end Go.Proofs.R8

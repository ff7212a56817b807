/- What the functions that ClientOverSaid reaches compute: part 1. -/
import Derived.Test.YtilcmignaebneaaAe3
import Derived.Test.YtilcmignaebneaaProg
import Derived.Test.YtilcmignaebneaaChecked
import Derived.Eval
set_option linter.unusedVariables false
set_option linter.unusedSimpArgs false
namespace Go.Proofs
instance Try.bt : Go.AE.BT := ⟨5, 1000000000, [(27, "Events", 39), (27, "Flush", 40), (27, "Read", 41), (27, "Write", 42), (32, "Flush", 10), (32, "Read", 20), (32, "Write", 9)]⟩
def Try.tab : Go.AE.Tab := [
  (1, ⟨.sc, 1, 8, [.nilf], none⟩),
  (2, ⟨.sc, 1, 8, [.int .i64 0], some (.int .i64)⟩),
  (3, ⟨.sc, 1, 8, [.int .i64 0], some (.int .i64)⟩),
  (4, ⟨.sc, 1, 1, [.bool false], some .bool⟩),
  (5, ⟨.sc, 1, 1, [.int .u8 0], some (.int .u8)⟩),
  (7, ⟨.struct [(2, 0), (3, 1), (4, 2), (6, 3)], 4, 24, [.int .i64 0, .int .i64 0, .bool false, .int .u8 0], some (.st (.pair (.int .i64) (.pair (.int .i64) (.pair .bool (.int .u8)))))⟩),
  (9, ⟨.sc, 1, 16, [.str []], some .str⟩),
  (12, ⟨.sc, 1, 8, [.int .u64 0], some (.int .u64)⟩),
  (20, ⟨.sc, 1, 16, [.nili], none⟩),
  (21, ⟨.sc, 1, 4, [.int .i32 0], some (.int .i32)⟩),
  (22, ⟨.slice 39, 1, 24, [.nils], some (.list (.st (.pair (.int .i64) (.pair (.int .i64) (.pair .str (.pair (.int .i64) (.pair (.int .i64) (.pair (.int .i64) (.pair (.pair (.int .i64) (.pair (.int .i64) (.pair (.int .i64) .str))) (.list (.int .i64)))))))))))⟩),
  (23, ⟨.slice 40, 1, 24, [.nils], some (.list (.int .i64))⟩),
  (24, ⟨.slice 3, 1, 24, [.nils], some (.list (.int .i64))⟩),
  (25, ⟨.sc, 1, 8, [.nilf], none⟩),
  (26, ⟨.sc, 1, 8, [.nilf], none⟩),
  (27, ⟨.ptr 31, 1, 8, [.nilp], none⟩),
  (28, ⟨.slice 54, 1, 24, [.nils], some (.list (.st (.pair (.int .i64) (.int .i64))))⟩),
  (29, ⟨.slice 71, 1, 24, [.nils], some (.list (.st (.pair (.int .i64) .str)))⟩),
  (30, ⟨.struct [(23, 0), (24, 1), (28, 2), (29, 3), (3, 4), (3, 5)], 6, 112, [.nils, .nils, .nils, .nils, .int .i64 0, .int .i64 0], some (.st (.pair (.list (.int .i64)) (.pair (.list (.int .i64)) (.pair (.list (.st (.pair (.int .i64) (.int .i64)))) (.pair (.list (.st (.pair (.int .i64) .str))) (.pair (.int .i64) (.int .i64)))))))⟩),
  (31, ⟨.struct [(23, 0), (24, 1), (28, 2), (29, 3), (3, 4), (3, 5)], 6, 112, [.nils, .nils, .nils, .nils, .int .i64 0, .int .i64 0], some (.st (.pair (.list (.int .i64)) (.pair (.list (.int .i64)) (.pair (.list (.st (.pair (.int .i64) (.int .i64)))) (.pair (.list (.st (.pair (.int .i64) .str))) (.pair (.int .i64) (.int .i64)))))))⟩),
  (32, ⟨.ptr 67, 1, 8, [.nilp], none⟩),
  (33, ⟨.sc, 1, 8, [.nilf], none⟩),
  (34, ⟨.struct [(3, 0), (3, 1), (3, 2), (9, 3)], 4, 40, [.int .i64 0, .int .i64 0, .int .i64 0, .str []], some (.st (.pair (.int .i64) (.pair (.int .i64) (.pair (.int .i64) .str))))⟩),
  (35, ⟨.struct [(3, 0), (3, 1), (3, 2), (9, 3)], 4, 40, [.int .i64 0, .int .i64 0, .int .i64 0, .str []], some (.st (.pair (.int .i64) (.pair (.int .i64) (.pair (.int .i64) .str))))⟩),
  (36, ⟨.struct [(3, 0), (3, 1), (3, 2), (35, 3), (24, 7)], 8, 88, [.int .i64 0, .int .i64 0, .int .i64 0, .int .i64 0, .int .i64 0, .int .i64 0, .str [], .nils], some (.st (.pair (.int .i64) (.pair (.int .i64) (.pair (.int .i64) (.pair (.pair (.int .i64) (.pair (.int .i64) (.pair (.int .i64) .str))) (.list (.int .i64)))))))⟩),
  (37, ⟨.struct [(3, 0), (3, 1), (3, 2), (35, 3), (24, 7)], 8, 88, [.int .i64 0, .int .i64 0, .int .i64 0, .int .i64 0, .int .i64 0, .int .i64 0, .str [], .nils], some (.st (.pair (.int .i64) (.pair (.int .i64) (.pair (.int .i64) (.pair (.pair (.int .i64) (.pair (.int .i64) (.pair (.int .i64) .str))) (.list (.int .i64)))))))⟩),
  (38, ⟨.struct [(3, 0), (3, 1), (9, 2), (37, 3)], 11, 120, [.int .i64 0, .int .i64 0, .str [], .int .i64 0, .int .i64 0, .int .i64 0, .int .i64 0, .int .i64 0, .int .i64 0, .str [], .nils], some (.st (.pair (.int .i64) (.pair (.int .i64) (.pair .str (.pair (.int .i64) (.pair (.int .i64) (.pair (.int .i64) (.pair (.pair (.int .i64) (.pair (.int .i64) (.pair (.int .i64) .str))) (.list (.int .i64))))))))))⟩),
  (39, ⟨.struct [(3, 0), (3, 1), (9, 2), (37, 3)], 11, 120, [.int .i64 0, .int .i64 0, .str [], .int .i64 0, .int .i64 0, .int .i64 0, .int .i64 0, .int .i64 0, .int .i64 0, .str [], .nils], some (.st (.pair (.int .i64) (.pair (.int .i64) (.pair .str (.pair (.int .i64) (.pair (.int .i64) (.pair (.int .i64) (.pair (.pair (.int .i64) (.pair (.int .i64) (.pair (.int .i64) .str))) (.list (.int .i64))))))))))⟩),
  (40, ⟨.sc, 1, 8, [.int .i64 0], some (.int .i64)⟩),
  (41, ⟨.sc, 1, 8, [.nilf], none⟩),
  (43, ⟨.sc, 1, 8, [.nilf], none⟩),
  (44, ⟨.sc, 1, 8, [.nilf], none⟩),
  (45, ⟨.sc, 1, 8, [.nilf], none⟩),
  (46, ⟨.sc, 1, 8, [.nilf], none⟩),
  (47, ⟨.sc, 1, 8, [.nilf], none⟩),
  (48, ⟨.sc, 1, 8, [.nilf], none⟩),
  (49, ⟨.ptr 52, 1, 8, [.nilp], none⟩),
  (50, ⟨.slice 76, 1, 24, [.nils], some (.list (.st (.pair (.int .i64) (.int .i64))))⟩),
  (51, ⟨.struct [(29, 0), (50, 1)], 2, 48, [.nils, .nils], some (.st (.pair (.list (.st (.pair (.int .i64) .str))) (.list (.st (.pair (.int .i64) (.int .i64))))))⟩),
  (52, ⟨.struct [(29, 0), (50, 1)], 2, 48, [.nils, .nils], some (.st (.pair (.list (.st (.pair (.int .i64) .str))) (.list (.st (.pair (.int .i64) (.int .i64))))))⟩),
  (53, ⟨.struct [(3, 0), (3, 1)], 2, 16, [.int .i64 0, .int .i64 0], some (.st (.pair (.int .i64) (.int .i64)))⟩),
  (54, ⟨.struct [(3, 0), (3, 1)], 2, 16, [.int .i64 0, .int .i64 0], some (.st (.pair (.int .i64) (.int .i64)))⟩),
  (56, ⟨.sc, 1, 8, [.nilf], none⟩),
  (57, ⟨.sc, 1, 8, [.nilf], none⟩),
  (58, ⟨.sc, 1, 8, [.nilf], none⟩),
  (60, ⟨.sc, 1, 8, [.nilf], none⟩),
  (61, ⟨.sc, 1, 8, [.nilf], none⟩),
  (62, ⟨.sc, 1, 16, [.nili], none⟩),
  (63, ⟨.sc, 1, 16, [.nili], none⟩),
  (64, ⟨.array 2 63, 2, 32, [.nili, .nili], none⟩),
  (65, ⟨.slice 74, 1, 24, [.nils], some (.list (.st (.pair (.int .i64) (.int .i64))))⟩),
  (66, ⟨.struct [(64, 0), (3, 2), (29, 3), (65, 4)], 5, 88, [.nili, .nili, .int .i64 0, .nils, .nils], none⟩),
  (67, ⟨.struct [(64, 0), (3, 2), (29, 3), (65, 4)], 5, 88, [.nili, .nili, .int .i64 0, .nils, .nils], none⟩),
  (68, ⟨.sc, 1, 8, [.nilf], none⟩),
  (69, ⟨.sc, 1, 8, [.nilf], none⟩),
  (70, ⟨.struct [(3, 0), (9, 1)], 2, 24, [.int .i64 0, .str []], some (.st (.pair (.int .i64) .str))⟩),
  (71, ⟨.struct [(3, 0), (9, 1)], 2, 24, [.int .i64 0, .str []], some (.st (.pair (.int .i64) .str))⟩),
  (72, ⟨.sc, 1, 8, [.nilf], none⟩),
  (73, ⟨.struct [(3, 0), (3, 1)], 2, 16, [.int .i64 0, .int .i64 0], some (.st (.pair (.int .i64) (.int .i64)))⟩),
  (74, ⟨.struct [(3, 0), (3, 1)], 2, 16, [.int .i64 0, .int .i64 0], some (.st (.pair (.int .i64) (.int .i64)))⟩),
  (75, ⟨.struct [(3, 0), (3, 1)], 2, 16, [.int .i64 0, .int .i64 0], some (.st (.pair (.int .i64) (.int .i64)))⟩),
  (76, ⟨.struct [(3, 0), (3, 1)], 2, 16, [.int .i64 0, .int .i64 0], some (.st (.pair (.int .i64) (.int .i64)))⟩),
  (77, ⟨.sc, 1, 8, [.nilf], none⟩),
  (78, ⟨.sc, 1, 8, [.nilf], none⟩),
  (84, ⟨.sc, 1, 4, [.int .u32 0], some (.int .u32)⟩),
  (87, ⟨.sc, 1, 8, [.nilf], none⟩),
  (88, ⟨.ptr 5, 1, 8, [.nilp], none⟩)]
end Go.Proofs
namespace Go.Proofs.R8
open Go Go.AE
theorem tabOk : TabOk Try.prog Try.tab := tabOk_of_check (by kernel_rfl)
theorem mixed : Try.prog.follows .mixedOrders = true := Checked.mixed Try.checked
end Go.Proofs.R8
namespace Go.Proofs.R8
open Go Go.AE
set_option maxRecDepth 100000
--@ client_New
noncomputable def envq30 : Env := []
theorem envq30Ok : EnvOk Try.prog envq30 := EnvOk.nil
noncomputable def bq30 : Code := Try.f8.body.getD .skip
noncomputable def annq30 : Ann := .none
theorem annq30_ok : AnnOk Try.prog 10 bq30 annq30 := (annOk_none _ _ _)
abbrev Aq30 := (Int) × (Int) × (Int) × (Int) × (List Int) × (List Int) × (List (Int × Int)) × (List (Int × List UInt8)) × (List Int) × (List Int) × (List (Int × Int)) × (List (Int × List UInt8))
abbrev Yq30 := Unit
def fnq30 {β : Type} : Aq30 → (Yq30 → Option β) → Option β := fun (o0_4,o0_5,o1_4,o1_5,o2,o3,o4,o5,o6,o7,o8,o9) exit => (exit ())
def fnDq30 (a : Aq30) : Option Yq30 := fnq30 a some
theorem fnq30_nat (a : Aq30) (k : Yq30 → Ans) : fnq30 a k = bindO (fnDq30 a) k := by
  obtain ⟨o0_4,o0_5,o1_4,o1_5,o2,o3,o4,o5,o6,o7,o8,o9⟩ := a
  simp only [fnDq30,fnq30,bindO_cond,bindO_assoc,bindO_none,bindO_pure,bindO_elim,bindO_unP,bindO_empty]
def argsq30 : Aq30 → List AV × List AE.Obj := fun (o0_4,o0_5,o1_4,o1_5,o2,o3,o4,o5,o6,o7,o8,o9) => ([.ifc 27 (.ptr 0 0),.ifc 27 (.ptr 1 0)],[.cells [.own 2,.own 3,.own 4,.own 5,.int .i64 o0_4,.int .i64 o0_5],.cells [.own 6,.own 7,.own 8,.own 9,.int .i64 o1_4,.int .i64 o1_5],.arr (.int .i64) o2,.arr (.int .i64) o3,.arr (.st (.pair (.int .i64) (.int .i64))) o4,.arr (.st (.pair (.int .i64) .str)) o5,.arr (.int .i64) o6,.arr (.int .i64) o7,.arr (.st (.pair (.int .i64) (.int .i64))) o8,.arr (.st (.pair (.int .i64) .str)) o9])
def decPAq30 (l : List AV) (H : List AE.Obj) : Option {a : Aq30 // (l,H) = argsq30 a} := match l,H with
  | [.ifc 27 (.ptr 0 0),.ifc 27 (.ptr 1 0)],[.cells [.own 2,.own 3,.own 4,.own 5,.int .i64 o0_4,.int .i64 o0_5],.cells [.own 6,.own 7,.own 8,.own 9,.int .i64 o1_4,.int .i64 o1_5],.arr (.int .i64) o2,.arr (.int .i64) o3,.arr (.st (.pair (.int .i64) (.int .i64))) o4,.arr (.st (.pair (.int .i64) .str)) o5,.arr (.int .i64) o6,.arr (.int .i64) o7,.arr (.st (.pair (.int .i64) (.int .i64))) o8,.arr (.st (.pair (.int .i64) .str)) o9] => some ⟨(o0_4,o0_5,o1_4,o1_5,o2,o3,o4,o5,o6,o7,o8,o9),rfl⟩
  | _,_ => none
def decAq30 (l : List AV) (H : List AE.Obj) : Option Aq30 := pk (decPAq30 l H)
theorem decAq30_ok (l : List AV) (H : List AE.Obj) (a : Aq30) (h : decAq30 l H = some a) : (l,H) = argsq30 a := pk_ok (o := decPAq30 l H) h
def outq30 : Aq30 → (AV → List AE.Obj → Ans) → Yq30 → Ans := fun (o0_4,o0_5,o1_4,o1_5,o2,o3,o4,o5,o6,o7,o8,o9) K => fun _ => K (.ptr 10 0) [.cells [.own 2,.own 3,.own 4,.own 5,.int .i64 o0_4,.int .i64 o0_5],.cells [.own 6,.own 7,.own 8,.own 9,.int .i64 o1_4,.int .i64 o1_5],.arr (.int .i64) o2,.arr (.int .i64) o3,.arr (.st (.pair (.int .i64) (.int .i64))) o4,.arr (.st (.pair (.int .i64) .str)) o5,.arr (.int .i64) o6,.arr (.int .i64) o7,.arr (.st (.pair (.int .i64) (.int .i64))) o8,.arr (.st (.pair (.int .i64) .str)) o9,.cells [.ifc 27 (.ptr 0 0),.ifc 27 (.ptr 1 0),.int .i64 (0),.own 11,.own 12],.arr (.st (.pair (.int .i64) .str)) ([]),.arr (.st (.pair (.int .i64) (.int .i64))) ([])]
theorem fnq30_ok (a : Aq30) (K : AV → List AE.Obj → Ans) : fnE Try.tab envq30 noHint 0 70 8 Try.f8.ntmps Try.f8.results.toList annq30 bq30 (argsq30 a).1 (argsq30 a).2 K = fnq30 a (outq30 a K) := by kernel_rfl
def vFq30 (a : Aq30) (K : AV → List AE.Obj → Ans) : Ans := bindO (fnDq30 a) fun y => outq30 a K y
def Fq30 : List AV → List AE.Obj → (AV → List AE.Obj → Ans) → Ans := fun l H K => bindO (decAq30 l H) fun a => vFq30 a K
theorem Fq30_ok : FuncOk Try.prog 8 Fq30 := func_mkD (hint := noHint) (d := 0) (n := 70) mixed tabOk envq30Ok Try.func8 (bodySome (by kernel_rfl)) (by decide +kernel) annq30_ok decAq30_ok fnq30_ok fnq30_nat
--@ client_Client_server
noncomputable def envq26 : Env := []
theorem envq26Ok : EnvOk Try.prog envq26 := EnvOk.nil
noncomputable def bq26 : Code := Try.f21.body.getD .skip
noncomputable def annq26 : Ann := .none
theorem annq26_ok : AnnOk Try.prog 14 bq26 annq26 := (annOk_none _ _ _)
abbrev Aq26 := (Int) × (Int) × (Int) × (Int) × (Int) × (List (Int × List UInt8)) × (List (Int × Int)) × (List Int) × (List Int) × (List (Int × Int)) × (List (Int × List UInt8)) × (List Int) × (List Int) × (List (Int × Int)) × (List (Int × List UInt8))
abbrev Yq26 := (Unit) ⊕ (Unit)
def fnq26 {β : Type} : Aq26 → (Yq26 → Option β) → Option β := fun (o0_2,o1_4,o1_5,o2_4,o2_5,o3,o4,o5,o6,o7,o8,o9,o10,o11,o12) exit => (bif o0_2 == (0 : Int) then (exit (Sum.inl ())) else (bif o0_2 == (1 : Int) then (exit (Sum.inr ())) else none))
def fnDq26 (a : Aq26) : Option Yq26 := fnq26 a some
theorem fnq26_nat (a : Aq26) (k : Yq26 → Ans) : fnq26 a k = bindO (fnDq26 a) k := by
  obtain ⟨o0_2,o1_4,o1_5,o2_4,o2_5,o3,o4,o5,o6,o7,o8,o9,o10,o11,o12⟩ := a
  simp only [fnDq26,fnq26,bindO_cond,bindO_assoc,bindO_none,bindO_pure,bindO_elim,bindO_unP,bindO_empty]
def argsq26 : Aq26 → List AV × List AE.Obj := fun (o0_2,o1_4,o1_5,o2_4,o2_5,o3,o4,o5,o6,o7,o8,o9,o10,o11,o12) => ([.ptr 0 0],[.cells [.ifc 27 (.ptr 1 0),.ifc 27 (.ptr 2 0),.int .i64 o0_2,.own 3,.own 4],.cells [.own 5,.own 6,.own 7,.own 8,.int .i64 o1_4,.int .i64 o1_5],.cells [.own 9,.own 10,.own 11,.own 12,.int .i64 o2_4,.int .i64 o2_5],.arr (.st (.pair (.int .i64) .str)) o3,.arr (.st (.pair (.int .i64) (.int .i64))) o4,.arr (.int .i64) o5,.arr (.int .i64) o6,.arr (.st (.pair (.int .i64) (.int .i64))) o7,.arr (.st (.pair (.int .i64) .str)) o8,.arr (.int .i64) o9,.arr (.int .i64) o10,.arr (.st (.pair (.int .i64) (.int .i64))) o11,.arr (.st (.pair (.int .i64) .str)) o12])
def decPAq26 (l : List AV) (H : List AE.Obj) : Option {a : Aq26 // (l,H) = argsq26 a} := match l,H with
  | [.ptr 0 0],[.cells [.ifc 27 (.ptr 1 0),.ifc 27 (.ptr 2 0),.int .i64 o0_2,.own 3,.own 4],.cells [.own 5,.own 6,.own 7,.own 8,.int .i64 o1_4,.int .i64 o1_5],.cells [.own 9,.own 10,.own 11,.own 12,.int .i64 o2_4,.int .i64 o2_5],.arr (.st (.pair (.int .i64) .str)) o3,.arr (.st (.pair (.int .i64) (.int .i64))) o4,.arr (.int .i64) o5,.arr (.int .i64) o6,.arr (.st (.pair (.int .i64) (.int .i64))) o7,.arr (.st (.pair (.int .i64) .str)) o8,.arr (.int .i64) o9,.arr (.int .i64) o10,.arr (.st (.pair (.int .i64) (.int .i64))) o11,.arr (.st (.pair (.int .i64) .str)) o12] => some ⟨(o0_2,o1_4,o1_5,o2_4,o2_5,o3,o4,o5,o6,o7,o8,o9,o10,o11,o12),rfl⟩
  | _,_ => none
def decAq26 (l : List AV) (H : List AE.Obj) : Option Aq26 := pk (decPAq26 l H)
theorem decAq26_ok (l : List AV) (H : List AE.Obj) (a : Aq26) (h : decAq26 l H = some a) : (l,H) = argsq26 a := pk_ok (o := decPAq26 l H) h
def outq26 : Aq26 → (AV → List AE.Obj → Ans) → Yq26 → Ans := fun (o0_2,o1_4,o1_5,o2_4,o2_5,o3,o4,o5,o6,o7,o8,o9,o10,o11,o12) K => (Sum.elim (fun _ => K (.ifc 27 (.ptr 1 0)) [.cells [.ifc 27 (.ptr 1 0),.ifc 27 (.ptr 2 0),.int .i64 o0_2,.own 3,.own 4],.cells [.own 5,.own 6,.own 7,.own 8,.int .i64 o1_4,.int .i64 o1_5],.cells [.own 9,.own 10,.own 11,.own 12,.int .i64 o2_4,.int .i64 o2_5],.arr (.st (.pair (.int .i64) .str)) o3,.arr (.st (.pair (.int .i64) (.int .i64))) o4,.arr (.int .i64) o5,.arr (.int .i64) o6,.arr (.st (.pair (.int .i64) (.int .i64))) o7,.arr (.st (.pair (.int .i64) .str)) o8,.arr (.int .i64) o9,.arr (.int .i64) o10,.arr (.st (.pair (.int .i64) (.int .i64))) o11,.arr (.st (.pair (.int .i64) .str)) o12]) (fun _ => K (.ifc 27 (.ptr 2 0)) [.cells [.ifc 27 (.ptr 1 0),.ifc 27 (.ptr 2 0),.int .i64 o0_2,.own 3,.own 4],.cells [.own 5,.own 6,.own 7,.own 8,.int .i64 o1_4,.int .i64 o1_5],.cells [.own 9,.own 10,.own 11,.own 12,.int .i64 o2_4,.int .i64 o2_5],.arr (.st (.pair (.int .i64) .str)) o3,.arr (.st (.pair (.int .i64) (.int .i64))) o4,.arr (.int .i64) o5,.arr (.int .i64) o6,.arr (.st (.pair (.int .i64) (.int .i64))) o7,.arr (.st (.pair (.int .i64) .str)) o8,.arr (.int .i64) o9,.arr (.int .i64) o10,.arr (.st (.pair (.int .i64) (.int .i64))) o11,.arr (.st (.pair (.int .i64) .str)) o12]))
theorem fnq26_ok (a : Aq26) (K : AV → List AE.Obj → Ans) : fnE Try.tab envq26 noHint 0 70 21 Try.f21.ntmps Try.f21.results.toList annq26 bq26 (argsq26 a).1 (argsq26 a).2 K = fnq26 a (outq26 a K) := by kernel_rfl
def vFq26 (a : Aq26) (K : AV → List AE.Obj → Ans) : Ans := bindO (fnDq26 a) fun y => outq26 a K y
def Fq26 : List AV → List AE.Obj → (AV → List AE.Obj → Ans) → Ans := fun l H K => bindO (decAq26 l H) fun a => vFq26 a K
theorem Fq26_ok : FuncOk Try.prog 21 Fq26 := func_mkD (hint := noHint) (d := 0) (n := 70) mixed tabOk envq26Ok Try.func21 (bodySome (by kernel_rfl)) (by decide +kernel) annq26_ok decAq26_ok fnq26_ok fnq26_nat
--@ law44_Tape_next
noncomputable def envq43 : Env := []
theorem envq43Ok : EnvOk Try.prog envq43 := EnvOk.nil
noncomputable def bq43 : Code := Try.f15.body.getD .skip
noncomputable def Lq43_n1 : Code := codeAt [1,1,1,1,1,1,1,0,1] bq43
noncomputable def annLq43_n1 : Ann := .none
theorem annLq43_n1_ok : AnnOk Try.prog 73 Lq43_n1 annLq43_n1 := (annOk_none _ _ _)
abbrev Iq43_n1 := (Bool) × (Int) × (Int) × (List Int) × (List Int) × (List (Int × Int)) × (List (Int × List UInt8)) × (Int)
abbrev Yq43_n1 := (Int)
def Sq43_n1 : Iq43_n1 → St := fun (t59,o0_4,o0_5,o1,o2,o3,o4,o6_0) => { env := [(0,.ptr 0 0),(2,.ptr 5 0),(5,.ptr 6 0),(59,.bool t59)],stk := [[(0,.ptr 0 0)]],H := [.cells [.own 1,.own 2,.own 3,.own 4,.int .i64 o0_4,.int .i64 o0_5],.arr (.int .i64) o1,.arr (.int .i64) o2,.arr (.st (.pair (.int .i64) (.int .i64))) o3,.arr (.st (.pair (.int .i64) .str)) o4,.cells [.int .i64 (0),.int .i64 (0)],.cells [.int .i64 o6_0,.int .i64 (0)]],blk := 61440 }
def decPq43_n1 (s : St) : Option {x : Iq43_n1 // s = Sq43_n1 x} := match s with
  | { env := [(0,.ptr 0 0),(2,.ptr 5 0),(5,.ptr 6 0),(59,.bool t59)],stk := [[(0,.ptr 0 0)]],H := [.cells [.own 1,.own 2,.own 3,.own 4,.int .i64 o0_4,.int .i64 o0_5],.arr (.int .i64) o1,.arr (.int .i64) o2,.arr (.st (.pair (.int .i64) (.int .i64))) o3,.arr (.st (.pair (.int .i64) .str)) o4,.cells [.int .i64 r7,.int .i64 r8],.cells [.int .i64 o6_0,.int .i64 r10]],blk := 61440 } => if h7 : r7 = 0 then if h8 : r8 = 0 then if h10 : r10 = 0 then some ⟨(t59,o0_4,o0_5,o1,o2,o3,o4,o6_0),by subst h7 h8 h10; rfl⟩ else none else none else none
  | _ => none
def decq43_n1 (s : St) : Option Iq43_n1 := pk (decPq43_n1 s)
theorem decq43_n1_ok (s : St) (x : Iq43_n1) (h : decq43_n1 s = some x) : s = Sq43_n1 x := pk_ok (o := decPq43_n1 s) h
def outq43_n1 : Iq43_n1 → (Ex → St → Ans) → Yq43_n1 → Ans := fun (t59,o0_4,o0_5,o1,o2,o3,o4,o6_0) K => fun o6_1_y => K (Ex.norm) { env := [(2,.ptr 5 0),(5,.ptr 6 0)],stk := [[(0,.ptr 0 0)]],H := [.cells [.own 1,.own 2,.own 3,.own 4,.int .i64 o0_4,.int .i64 o0_5],.arr (.int .i64) o1,.arr (.int .i64) o2,.arr (.st (.pair (.int .i64) (.int .i64))) o3,.arr (.st (.pair (.int .i64) .str)) o4,.cells [.int .i64 (0),.int .i64 (0)],.cells [.int .i64 o6_0,.int .i64 o6_1_y]],blk := 61440 }
def nodeq43_n1 {β : Type} : Iq43_n1 → (Yq43_n1 → Option β) → Option β := fun (t59,o0_4,o0_5,o1,o2,o3,o4,o6_0) exit => (bif t59 then (bif inR (IntKind.wrap .i64 (o0_5 - (1 : Int))) (List.length o2) then (bindO (o2[Int.toNat (IntKind.wrap .i64 (o0_5 - (1 : Int)))]?) fun x => (exit (x))) else none) else (exit ((0 : Int))))
def nodeDq43_n1 (i : Iq43_n1) : Option Yq43_n1 := nodeq43_n1 i some
theorem nodeq43_n1_nat (i : Iq43_n1) (k : Yq43_n1 → Ans) : nodeq43_n1 i k = bindO (nodeDq43_n1 i) k := by
  obtain ⟨t59,o0_4,o0_5,o1,o2,o3,o4,o6_0⟩ := i
  simp only [nodeDq43_n1,nodeq43_n1,bindO_cond,bindO_assoc,bindO_none,bindO_pure,bindO_elim,bindO_unP,bindO_empty]
theorem nodeq43_n1_ok (i : Iq43_n1) (K : Ex → St → Ans) : codeI Try.tab envq43 noHint (codeD Try.tab envq43 noHint 0 64) 70 73 annLq43_n1 Lq43_n1 (weakP 5 (exk [2,5] [2,3] []) K) (Sq43_n1 i) = nodeq43_n1 i (outq43_n1 i K) := by kernel_rfl
theorem GNq43_n1_ok : CSum Try.prog 73 Lq43_n1 (sumN decq43_n1 nodeDq43_n1 outq43_n1) := csum_node mixed tabOk envq43Ok 5 (exk [2,5] [2,3] []) annLq43_n1_ok decq43_n1_ok nodeq43_n1_ok nodeq43_n1_nat
noncomputable def Gq43_n1 : (Ex → St → Ans) → St → Ans := (sumN decq43_n1 nodeDq43_n1 outq43_n1)
theorem Gq43_n1_ok : CSum Try.prog 73 Lq43_n1 Gq43_n1 := GNq43_n1_ok
noncomputable def Lq43_n0 : Code := codeAt [1,1,1,0,1] bq43
noncomputable def annLq43_n0 : Ann := .none
theorem annLq43_n0_ok : AnnOk Try.prog 73 Lq43_n0 annLq43_n0 := (annOk_none _ _ _)
abbrev Iq43_n0 := (Bool) × (Int) × (Int) × (List Int) × (List Int) × (List (Int × Int)) × (List (Int × List UInt8))
abbrev Yq43_n0 := (Int)
def Sq43_n0 : Iq43_n0 → St := fun (t22,o0_4,o0_5,o1,o2,o3,o4) => { env := [(0,.ptr 0 0),(2,.ptr 5 0),(4,.int .i64 (0)),(22,.bool t22)],stk := [[(0,.ptr 0 0)]],H := [.cells [.own 1,.own 2,.own 3,.own 4,.int .i64 o0_4,.int .i64 o0_5],.arr (.int .i64) o1,.arr (.int .i64) o2,.arr (.st (.pair (.int .i64) (.int .i64))) o3,.arr (.st (.pair (.int .i64) .str)) o4,.cells [.int .i64 (0),.int .i64 (0)]],blk := 61440 }
def decPq43_n0 (s : St) : Option {x : Iq43_n0 // s = Sq43_n0 x} := match s with
  | { env := [(0,.ptr 0 0),(2,.ptr 5 0),(4,.int .i64 r0),(22,.bool t22)],stk := [[(0,.ptr 0 0)]],H := [.cells [.own 1,.own 2,.own 3,.own 4,.int .i64 o0_4,.int .i64 o0_5],.arr (.int .i64) o1,.arr (.int .i64) o2,.arr (.st (.pair (.int .i64) (.int .i64))) o3,.arr (.st (.pair (.int .i64) .str)) o4,.cells [.int .i64 r8,.int .i64 r9]],blk := 61440 } => if h0 : r0 = 0 then if h8 : r8 = 0 then if h9 : r9 = 0 then some ⟨(t22,o0_4,o0_5,o1,o2,o3,o4),by subst h0 h8 h9; rfl⟩ else none else none else none
  | _ => none
def decq43_n0 (s : St) : Option Iq43_n0 := pk (decPq43_n0 s)
theorem decq43_n0_ok (s : St) (x : Iq43_n0) (h : decq43_n0 s = some x) : s = Sq43_n0 x := pk_ok (o := decPq43_n0 s) h
def outq43_n0 : Iq43_n0 → (Ex → St → Ans) → Yq43_n0 → Ans := fun (t22,o0_4,o0_5,o1,o2,o3,o4) K => fun t4_y => K (Ex.norm) { env := [(0,.ptr 0 0),(2,.ptr 5 0),(4,.int .i64 t4_y)],stk := [[(0,.ptr 0 0)]],H := [.cells [.own 1,.own 2,.own 3,.own 4,.int .i64 o0_4,.int .i64 o0_5],.arr (.int .i64) o1,.arr (.int .i64) o2,.arr (.st (.pair (.int .i64) (.int .i64))) o3,.arr (.st (.pair (.int .i64) .str)) o4,.cells [.int .i64 (0),.int .i64 (0)]],blk := 61440 }
def nodeq43_n0 {β : Type} : Iq43_n0 → (Yq43_n0 → Option β) → Option β := fun (t22,o0_4,o0_5,o1,o2,o3,o4) exit => (bif t22 then (bif inR (IntKind.wrap .i64 (o0_4 - (1 : Int))) (List.length o1) then (bindO (o1[Int.toNat (IntKind.wrap .i64 (o0_4 - (1 : Int)))]?) fun x => (exit (x))) else none) else (exit ((0 : Int))))
def nodeDq43_n0 (i : Iq43_n0) : Option Yq43_n0 := nodeq43_n0 i some
theorem nodeq43_n0_nat (i : Iq43_n0) (k : Yq43_n0 → Ans) : nodeq43_n0 i k = bindO (nodeDq43_n0 i) k := by
  obtain ⟨t22,o0_4,o0_5,o1,o2,o3,o4⟩ := i
  simp only [nodeDq43_n0,nodeq43_n0,bindO_cond,bindO_assoc,bindO_none,bindO_pure,bindO_elim,bindO_unP,bindO_empty]
theorem nodeq43_n0_ok (i : Iq43_n0) (K : Ex → St → Ans) : codeI Try.tab envq43 noHint (codeD Try.tab envq43 noHint 0 64) 70 73 annLq43_n0 Lq43_n0 (weakP 5 (exk [0,2,4] [2,3] []) K) (Sq43_n0 i) = nodeq43_n0 i (outq43_n0 i K) := by kernel_rfl
theorem GNq43_n0_ok : CSum Try.prog 73 Lq43_n0 (sumN decq43_n0 nodeDq43_n0 outq43_n0) := csum_node mixed tabOk envq43Ok 5 (exk [0,2,4] [2,3] []) annLq43_n0_ok decq43_n0_ok nodeq43_n0_ok nodeq43_n0_nat
noncomputable def Gq43_n0 : (Ex → St → Ans) → St → Ans := (sumN decq43_n0 nodeDq43_n0 outq43_n0)
theorem Gq43_n0_ok : CSum Try.prog 73 Lq43_n0 Gq43_n0 := GNq43_n0_ok
noncomputable def annq43 : Ann := (.seq .none (.seq .none (.seq .none (.seq (.seq .none (.cut 5 [0,2,4,22] Gq43_n0)) (.seq .none (.seq .none (.seq .none (.seq (.seq .none (.cut 5 [0,2,5,59] Gq43_n1)) .none))))))))
theorem annq43_ok : AnnOk Try.prog 73 bq43 annq43 := ⟨(annOk_none _ _ _),⟨(annOk_none _ _ _),⟨(annOk_none _ _ _),⟨⟨(annOk_none _ _ _),Gq43_n0_ok⟩,⟨(annOk_none _ _ _),⟨(annOk_none _ _ _),⟨(annOk_none _ _ _),⟨⟨(annOk_none _ _ _),Gq43_n1_ok⟩,(annOk_none _ _ _)⟩⟩⟩⟩⟩⟩⟩⟩
abbrev Aq43 := (Int) × (Int) × (List Int) × (List Int) × (List (Int × Int)) × (List (Int × List UInt8))
abbrev Yq43 := (Int) × (Int) × (Int) × (Int) × (Int)
def fnq43 {β : Type} : Aq43 → (Yq43 → Option β) → Option β := fun (o0_4,o0_5,o1,o2,o3,o4) exit => (bindO (nodeDq43_n0 (decide (IntKind.wrap .i64 (o0_4 + (1 : Int)) ≤ (↑(List.length o1) : Int)),IntKind.wrap .i64 (o0_4 + (1 : Int)),o0_5,o1,o2,o3,o4)) fun t4 => (bif t4 != (0 : Int) then (exit ((0 : Int),(0 : Int),t4,IntKind.wrap .i64 (o0_4 + (1 : Int)),o0_5)) else (bindO (nodeDq43_n1 (decide (IntKind.wrap .i64 (o0_5 + (1 : Int)) ≤ (↑(List.length o2) : Int)),IntKind.wrap .i64 (o0_4 + (1 : Int)),IntKind.wrap .i64 (o0_5 + (1 : Int)),o1,o2,o3,o4,IntKind.wrap .i64 (o0_5 + (1 : Int)))) fun o6_1 => (exit (IntKind.wrap .i64 (o0_5 + (1 : Int)),o6_1,(0 : Int),IntKind.wrap .i64 (o0_4 + (1 : Int)),IntKind.wrap .i64 (o0_5 + (1 : Int)))))))
def fnDq43 (a : Aq43) : Option Yq43 := fnq43 a some
theorem fnq43_nat (a : Aq43) (k : Yq43 → Ans) : fnq43 a k = bindO (fnDq43 a) k := by
  obtain ⟨o0_4,o0_5,o1,o2,o3,o4⟩ := a
  simp only [fnDq43,fnq43,bindO_cond,bindO_assoc,bindO_none,bindO_pure,bindO_elim,bindO_unP,bindO_empty]
def argsq43 : Aq43 → List AV × List AE.Obj := fun (o0_4,o0_5,o1,o2,o3,o4) => ([.ptr 0 0],[.cells [.own 1,.own 2,.own 3,.own 4,.int .i64 o0_4,.int .i64 o0_5],.arr (.int .i64) o1,.arr (.int .i64) o2,.arr (.st (.pair (.int .i64) (.int .i64))) o3,.arr (.st (.pair (.int .i64) .str)) o4])
def decPAq43 (l : List AV) (H : List AE.Obj) : Option {a : Aq43 // (l,H) = argsq43 a} := match l,H with
  | [.ptr 0 0],[.cells [.own 1,.own 2,.own 3,.own 4,.int .i64 o0_4,.int .i64 o0_5],.arr (.int .i64) o1,.arr (.int .i64) o2,.arr (.st (.pair (.int .i64) (.int .i64))) o3,.arr (.st (.pair (.int .i64) .str)) o4] => some ⟨(o0_4,o0_5,o1,o2,o3,o4),rfl⟩
  | _,_ => none
def decAq43 (l : List AV) (H : List AE.Obj) : Option Aq43 := pk (decPAq43 l H)
theorem decAq43_ok (l : List AV) (H : List AE.Obj) (a : Aq43) (h : decAq43 l H = some a) : (l,H) = argsq43 a := pk_ok (o := decPAq43 l H) h
def outq43 : Aq43 → (AV → List AE.Obj → Ans) → Yq43 → Ans := fun (o0_4,o0_5,o1,o2,o3,o4) K => unP fun r_0_0_y => unP fun r_0_1_y => unP fun r_1_y => unP fun o0_4_y o0_5_y => K (.tup [.agg [.int .i64 r_0_0_y,.int .i64 r_0_1_y],.int .i64 r_1_y]) [.cells [.own 1,.own 2,.own 3,.own 4,.int .i64 o0_4_y,.int .i64 o0_5_y],.arr (.int .i64) o1,.arr (.int .i64) o2,.arr (.st (.pair (.int .i64) (.int .i64))) o3,.arr (.st (.pair (.int .i64) .str)) o4]
theorem fnq43_ok (a : Aq43) (K : AV → List AE.Obj → Ans) : fnE Try.tab envq43 noHint 0 70 15 Try.f15.ntmps Try.f15.results.toList annq43 bq43 (argsq43 a).1 (argsq43 a).2 K = fnq43 a (outq43 a K) := by kernel_rfl
def vFq43 (a : Aq43) (K : AV → List AE.Obj → Ans) : Ans := bindO (fnDq43 a) fun y => outq43 a K y
def Fq43 : List AV → List AE.Obj → (AV → List AE.Obj → Ans) → Ans := fun l H K => bindO (decAq43 l H) fun a => vFq43 a K
theorem Fq43_ok : FuncOk Try.prog 15 Fq43 := func_mkD (hint := noHint) (d := 0) (n := 70) mixed tabOk envq43Ok Try.func15 (bodySome (by kernel_rfl)) (by decide +kernel) annq43_ok decAq43_ok fnq43_ok fnq43_nat
--@ law44_Tape_Write
noncomputable def envq40 : Env := [(15,.func Fq43)]
theorem envq40Ok : EnvOk Try.prog envq40 := EnvOk.cons Fq43_ok (EnvOk.nil)
noncomputable def bq40 : Code := Try.f42.body.getD .skip
noncomputable def Lq40_n0 : Code := codeAt [1,1,0,1] bq40
noncomputable def annLq40_n0 : Ann := .none
theorem annLq40_n0_ok : AnnOk Try.prog 33 Lq40_n0 annLq40_n0 := (annOk_none _ _ _)
abbrev Iq40_n0 := (Int) × (List UInt8) × (Int) × (Bool) × (Int) × (Int) × (List Int) × (List Int) × (List (Int × Int)) × (List (Int × List UInt8)) × (Int) × (Int)
abbrev Yq40_n0 := ((List (Int × List UInt8))) ⊕ (Unit)
def Sq40_n0 : Iq40_n0 → St := fun (t1,t2,t9,t16,o0_4,o0_5,o1,o2,o3,o4,o6_0,o6_1) => { env := [(0,.ptr 0 0),(1,.int .i64 t1),(2,.str t2),(6,.ptr 5 0),(8,.ptr 6 0),(9,.int .i64 t9),(16,.bool t16)],stk := [[(0,.ptr 0 0)]],H := [.cells [.own 1,.own 2,.own 3,.own 4,.int .i64 o0_4,.int .i64 o0_5],.arr (.int .i64) o1,.arr (.int .i64) o2,.arr (.st (.pair (.int .i64) (.int .i64))) o3,.arr (.st (.pair (.int .i64) .str)) o4,.cells [.int .i64 (0),.int .i64 (0)],.cells [.int .i64 o6_0,.int .i64 o6_1]],blk := 172032 }
def decPq40_n0 (s : St) : Option {x : Iq40_n0 // s = Sq40_n0 x} := match s with
  | { env := [(0,.ptr 0 0),(1,.int .i64 t1),(2,.str t2),(6,.ptr 5 0),(8,.ptr 6 0),(9,.int .i64 t9),(16,.bool t16)],stk := [[(0,.ptr 0 0)]],H := [.cells [.own 1,.own 2,.own 3,.own 4,.int .i64 o0_4,.int .i64 o0_5],.arr (.int .i64) o1,.arr (.int .i64) o2,.arr (.st (.pair (.int .i64) (.int .i64))) o3,.arr (.st (.pair (.int .i64) .str)) o4,.cells [.int .i64 r10,.int .i64 r11],.cells [.int .i64 o6_0,.int .i64 o6_1]],blk := 172032 } => if h10 : r10 = 0 then if h11 : r11 = 0 then some ⟨(t1,t2,t9,t16,o0_4,o0_5,o1,o2,o3,o4,o6_0,o6_1),by subst h10 h11; rfl⟩ else none else none
  | _ => none
def decq40_n0 (s : St) : Option Iq40_n0 := pk (decPq40_n0 s)
theorem decq40_n0_ok (s : St) (x : Iq40_n0) (h : decq40_n0 s = some x) : s = Sq40_n0 x := pk_ok (o := decPq40_n0 s) h
def outq40_n0 : Iq40_n0 → (Ex → St → Ans) → Yq40_n0 → Ans := fun (t1,t2,t9,t16,o0_4,o0_5,o1,o2,o3,o4,o6_0,o6_1) K => (Sum.elim (fun o7_y => K (Ex.norm) { env := [(6,.ptr 5 0),(8,.ptr 6 0),(9,.int .i64 t9)],stk := [[(0,.ptr 0 0)]],H := [.cells [.own 1,.own 2,.own 3,.own 7,.int .i64 o0_4,.int .i64 o0_5],.arr (.int .i64) o1,.arr (.int .i64) o2,.arr (.st (.pair (.int .i64) (.int .i64))) o3,.arr (.st (.pair (.int .i64) .str)) o4,.cells [.int .i64 (0),.int .i64 (0)],.cells [.int .i64 o6_0,.int .i64 o6_1],.arr (.st (.pair (.int .i64) .str)) o7_y],blk := 172032 }) (fun _ => K (Ex.norm) { env := [(6,.ptr 5 0),(8,.ptr 6 0),(9,.int .i64 t9)],stk := [[(0,.ptr 0 0)]],H := [.cells [.own 1,.own 2,.own 3,.own 4,.int .i64 o0_4,.int .i64 o0_5],.arr (.int .i64) o1,.arr (.int .i64) o2,.arr (.st (.pair (.int .i64) (.int .i64))) o3,.arr (.st (.pair (.int .i64) .str)) o4,.cells [.int .i64 (0),.int .i64 (0)],.cells [.int .i64 o6_0,.int .i64 o6_1]],blk := 172032 }))
def nodeq40_n0 {β : Type} : Iq40_n0 → (Yq40_n0 → Option β) → Option β := fun (t1,t2,t9,t16,o0_4,o0_5,o1,o2,o3,o4,o6_0,o6_1) exit => (bif t16 then (bif Nat.ble (((0 : Nat) + List.length o4) * (24 : Nat)) (140737488355328 : Nat) then (bif Nat.ble ((List.length o4 + List.length [(t1,t2)]) * (24 : Nat)) (140737488355328 : Nat) then (exit (Sum.inl (o4 ++ [(t1,t2)]))) else none) else none) else (exit (Sum.inr ())))
def nodeDq40_n0 (i : Iq40_n0) : Option Yq40_n0 := nodeq40_n0 i some
theorem nodeq40_n0_nat (i : Iq40_n0) (k : Yq40_n0 → Ans) : nodeq40_n0 i k = bindO (nodeDq40_n0 i) k := by
  obtain ⟨t1,t2,t9,t16,o0_4,o0_5,o1,o2,o3,o4,o6_0,o6_1⟩ := i
  simp only [nodeDq40_n0,nodeq40_n0,bindO_cond,bindO_assoc,bindO_none,bindO_pure,bindO_elim,bindO_unP,bindO_empty]
theorem nodeq40_n0_ok (i : Iq40_n0) (K : Ex → St → Ans) : codeI Try.tab envq40 noHint (codeD Try.tab envq40 noHint 0 64) 70 33 annLq40_n0 Lq40_n0 (weakP 5 (exk [6,8,9] [6,7] []) K) (Sq40_n0 i) = nodeq40_n0 i (outq40_n0 i K) := by kernel_rfl
theorem GNq40_n0_ok : CSum Try.prog 33 Lq40_n0 (sumN decq40_n0 nodeDq40_n0 outq40_n0) := csum_node mixed tabOk envq40Ok 5 (exk [6,8,9] [6,7] []) annLq40_n0_ok decq40_n0_ok nodeq40_n0_ok nodeq40_n0_nat
noncomputable def Gq40_n0 : (Ex → St → Ans) → St → Ans := (sumN decq40_n0 nodeDq40_n0 outq40_n0)
theorem Gq40_n0_ok : CSum Try.prog 33 Lq40_n0 Gq40_n0 := GNq40_n0_ok
noncomputable def annq40 : Ann := (.seq .none (.seq .none (.seq (.seq .none (.cut 5 [0,1,2,6,8,9,16] Gq40_n0)) .none)))
theorem annq40_ok : AnnOk Try.prog 33 bq40 annq40 := ⟨(annOk_none _ _ _),⟨(annOk_none _ _ _),⟨⟨(annOk_none _ _ _),Gq40_n0_ok⟩,(annOk_none _ _ _)⟩⟩⟩
abbrev Aq40 := (Int) × (List UInt8) × (Int) × (Int) × (List Int) × (List Int) × (List (Int × Int)) × (List (Int × List UInt8))
abbrev Yq40 := ((Int) × (Int) × (Int) × (Int) × (Int) × (List (Int × List UInt8))) ⊕ ((Int) × (Int) × (Int) × (Int) × (Int))
def fnq40 {β : Type} : Aq40 → (Yq40 → Option β) → Option β := fun (a1,a2,o0_4,o0_5,o1,o2,o3,o4) exit => (bindO (fnDq43 (o0_4,o0_5,o1,o2,o3,o4)) (unP fun r_0_0 => unP fun r_0_1 => unP fun r_1 => unP fun o0_4_2 o0_5_2 => (bindO (nodeDq40_n0 (a1,a2,r_1,r_1 == (0 : Int),o0_4_2,o0_5_2,o1,o2,o3,o4,r_0_0,r_0_1)) (Sum.elim (fun o7 => (exit (Sum.inl (r_0_0,r_0_1,r_1,o0_4_2,o0_5_2,o7)))) (fun _ => (exit (Sum.inr (r_0_0,r_0_1,r_1,o0_4_2,o0_5_2))))))))
def fnDq40 (a : Aq40) : Option Yq40 := fnq40 a some
theorem fnq40_nat (a : Aq40) (k : Yq40 → Ans) : fnq40 a k = bindO (fnDq40 a) k := by
  obtain ⟨a1,a2,o0_4,o0_5,o1,o2,o3,o4⟩ := a
  simp only [fnDq40,fnq40,bindO_cond,bindO_assoc,bindO_none,bindO_pure,bindO_elim,bindO_unP,bindO_empty]
def argsq40 : Aq40 → List AV × List AE.Obj := fun (a1,a2,o0_4,o0_5,o1,o2,o3,o4) => ([.ptr 0 0,.int .i64 a1,.str a2],[.cells [.own 1,.own 2,.own 3,.own 4,.int .i64 o0_4,.int .i64 o0_5],.arr (.int .i64) o1,.arr (.int .i64) o2,.arr (.st (.pair (.int .i64) (.int .i64))) o3,.arr (.st (.pair (.int .i64) .str)) o4])
def decPAq40 (l : List AV) (H : List AE.Obj) : Option {a : Aq40 // (l,H) = argsq40 a} := match l,H with
  | [.ptr 0 0,.int .i64 a1,.str a2],[.cells [.own 1,.own 2,.own 3,.own 4,.int .i64 o0_4,.int .i64 o0_5],.arr (.int .i64) o1,.arr (.int .i64) o2,.arr (.st (.pair (.int .i64) (.int .i64))) o3,.arr (.st (.pair (.int .i64) .str)) o4] => some ⟨(a1,a2,o0_4,o0_5,o1,o2,o3,o4),rfl⟩
  | _,_ => none
def decAq40 (l : List AV) (H : List AE.Obj) : Option Aq40 := pk (decPAq40 l H)
theorem decAq40_ok (l : List AV) (H : List AE.Obj) (a : Aq40) (h : decAq40 l H = some a) : (l,H) = argsq40 a := pk_ok (o := decPAq40 l H) h
def outq40 : Aq40 → (AV → List AE.Obj → Ans) → Yq40 → Ans := fun (a1,a2,o0_4,o0_5,o1,o2,o3,o4) K => (Sum.elim (unP fun r_0_0_y => unP fun r_0_1_y => unP fun r_1_y => unP fun o0_4_y => unP fun o0_5_y o5_y => K (.tup [.agg [.int .i64 r_0_0_y,.int .i64 r_0_1_y],.int .i64 r_1_y]) [.cells [.own 1,.own 2,.own 3,.own 5,.int .i64 o0_4_y,.int .i64 o0_5_y],.arr (.int .i64) o1,.arr (.int .i64) o2,.arr (.st (.pair (.int .i64) (.int .i64))) o3,.arr (.st (.pair (.int .i64) .str)) o4,.arr (.st (.pair (.int .i64) .str)) o5_y]) (unP fun r_0_0_y => unP fun r_0_1_y => unP fun r_1_y => unP fun o0_4_y o0_5_y => K (.tup [.agg [.int .i64 r_0_0_y,.int .i64 r_0_1_y],.int .i64 r_1_y]) [.cells [.own 1,.own 2,.own 3,.own 4,.int .i64 o0_4_y,.int .i64 o0_5_y],.arr (.int .i64) o1,.arr (.int .i64) o2,.arr (.st (.pair (.int .i64) (.int .i64))) o3,.arr (.st (.pair (.int .i64) .str)) o4]))
theorem fnq40_ok (a : Aq40) (K : AV → List AE.Obj → Ans) : fnE Try.tab envq40 noHint 0 70 42 Try.f42.ntmps Try.f42.results.toList annq40 bq40 (argsq40 a).1 (argsq40 a).2 K = fnq40 a (outq40 a K) := by kernel_rfl
def vFq40 (a : Aq40) (K : AV → List AE.Obj → Ans) : Ans := bindO (fnDq40 a) fun y => outq40 a K y
def Fq40 : List AV → List AE.Obj → (AV → List AE.Obj → Ans) → Ans := fun l H K => bindO (decAq40 l H) fun a => vFq40 a K
theorem Fq40_ok : FuncOk Try.prog 42 Fq40 := func_mkD (hint := noHint) (d := 0) (n := 70) mixed tabOk envq40Ok Try.func42 (bodySome (by kernel_rfl)) (by decide +kernel) annq40_ok decAq40_ok fnq40_ok fnq40_nat
--@ client_Client_Write
noncomputable def envq20 : Env := [(21,.func Fq26),(42,.func Fq40)]
theorem envq20Ok : EnvOk Try.prog envq20 := EnvOk.cons Fq26_ok (EnvOk.cons Fq40_ok (EnvOk.nil))
noncomputable def bq20 : Code := Try.f9.body.getD .skip
noncomputable def annq20 : Ann := .none
theorem annq20_ok : AnnOk Try.prog 44 bq20 annq20 := (annOk_none _ _ _)
abbrev Aq20 := (Int) × (List UInt8) × (Int) × (Int) × (Int) × (Int) × (Int) × (List (Int × List UInt8)) × (List (Int × Int)) × (List Int) × (List Int) × (List (Int × Int)) × (List (Int × List UInt8)) × (List Int) × (List Int) × (List (Int × Int)) × (List (Int × List UInt8))
abbrev Yq20 := ((Int) × (Int) × (Int) × (Int) × (Int) × (List (Int × List UInt8))) ⊕ ((Int) × (Int) × (Int) × (List (Int × List UInt8)) × (List (Int × List UInt8))) ⊕ ((Int) × (Int) × (Int) × (List (Int × List UInt8)) × (List (Int × List UInt8)))
def fnq20 {β : Type} : Aq20 → (Yq20 → Option β) → Option β := fun (a1,a2,o0_2,o1_4,o1_5,o2_4,o2_5,o3,o4,o5,o6,o7,o8,o9,o10,o11,o12) exit => (bindO (fnDq26 (o0_2,o1_4,o1_5,o2_4,o2_5,o3,o4,o5,o6,o7,o8,o9,o10,o11,o12)) (Sum.elim (fun _ => (bif decide ((↑(List.length o3) : Int) ≥ (200 : Int)) then (exit (Sum.inl ((6 : Int),o1_4,o1_5,o2_4,o2_5,o3))) else (bindO (fnDq40 (a1,a2,o1_4,o1_5,o5,o6,o7,o8)) (Sum.elim (unP fun r_0_0 => unP fun r_0_1 => unP fun r_1 => unP fun o0_4 => unP fun o0_5 o5_2 => (bif r_1 != (0 : Int) then (exit (Sum.inr (Sum.inl (r_1,o0_4,o0_5,o3,o5_2)))) else (bif Nat.ble ((List.length o3 + List.length [(a1,a2)]) * (24 : Nat)) (140737488355328 : Nat) then (exit (Sum.inr (Sum.inl ((0 : Int),o0_4,o0_5,o3 ++ [(a1,a2)],o5_2)))) else none))) (unP fun r_0_0 => unP fun r_0_1 => unP fun r_1 => unP fun o0_4 o0_5 => (bif r_1 != (0 : Int) then (exit (Sum.inl (r_1,o0_4,o0_5,o2_4,o2_5,o3))) else (bif Nat.ble ((List.length o3 + List.length [(a1,a2)]) * (24 : Nat)) (140737488355328 : Nat) then (exit (Sum.inl ((0 : Int),o0_4,o0_5,o2_4,o2_5,o3 ++ [(a1,a2)]))) else none))))))) (fun _ => (bif decide ((↑(List.length o3) : Int) ≥ (200 : Int)) then (exit (Sum.inl ((6 : Int),o1_4,o1_5,o2_4,o2_5,o3))) else (bindO (fnDq40 (a1,a2,o2_4,o2_5,o9,o10,o11,o12)) (Sum.elim (unP fun r_0_0 => unP fun r_0_1 => unP fun r_1 => unP fun o0_4 => unP fun o0_5 o5_2 => (bif r_1 != (0 : Int) then (exit (Sum.inr (Sum.inr (r_1,o0_4,o0_5,o3,o5_2)))) else (bif Nat.ble ((List.length o3 + List.length [(a1,a2)]) * (24 : Nat)) (140737488355328 : Nat) then (exit (Sum.inr (Sum.inr ((0 : Int),o0_4,o0_5,o3 ++ [(a1,a2)],o5_2)))) else none))) (unP fun r_0_0 => unP fun r_0_1 => unP fun r_1 => unP fun o0_4 o0_5 => (bif r_1 != (0 : Int) then (exit (Sum.inl (r_1,o1_4,o1_5,o0_4,o0_5,o3))) else (bif Nat.ble ((List.length o3 + List.length [(a1,a2)]) * (24 : Nat)) (140737488355328 : Nat) then (exit (Sum.inl ((0 : Int),o1_4,o1_5,o0_4,o0_5,o3 ++ [(a1,a2)]))) else none)))))))))
def fnDq20 (a : Aq20) : Option Yq20 := fnq20 a some
theorem fnq20_nat (a : Aq20) (k : Yq20 → Ans) : fnq20 a k = bindO (fnDq20 a) k := by
  obtain ⟨a1,a2,o0_2,o1_4,o1_5,o2_4,o2_5,o3,o4,o5,o6,o7,o8,o9,o10,o11,o12⟩ := a
  simp only [fnDq20,fnq20,bindO_cond,bindO_assoc,bindO_none,bindO_pure,bindO_elim,bindO_unP,bindO_empty]
def argsq20 : Aq20 → List AV × List AE.Obj := fun (a1,a2,o0_2,o1_4,o1_5,o2_4,o2_5,o3,o4,o5,o6,o7,o8,o9,o10,o11,o12) => ([.ptr 0 0,.int .i64 a1,.str a2],[.cells [.ifc 27 (.ptr 1 0),.ifc 27 (.ptr 2 0),.int .i64 o0_2,.own 3,.own 4],.cells [.own 5,.own 6,.own 7,.own 8,.int .i64 o1_4,.int .i64 o1_5],.cells [.own 9,.own 10,.own 11,.own 12,.int .i64 o2_4,.int .i64 o2_5],.arr (.st (.pair (.int .i64) .str)) o3,.arr (.st (.pair (.int .i64) (.int .i64))) o4,.arr (.int .i64) o5,.arr (.int .i64) o6,.arr (.st (.pair (.int .i64) (.int .i64))) o7,.arr (.st (.pair (.int .i64) .str)) o8,.arr (.int .i64) o9,.arr (.int .i64) o10,.arr (.st (.pair (.int .i64) (.int .i64))) o11,.arr (.st (.pair (.int .i64) .str)) o12])
def decPAq20 (l : List AV) (H : List AE.Obj) : Option {a : Aq20 // (l,H) = argsq20 a} := match l,H with
  | [.ptr 0 0,.int .i64 a1,.str a2],[.cells [.ifc 27 (.ptr 1 0),.ifc 27 (.ptr 2 0),.int .i64 o0_2,.own 3,.own 4],.cells [.own 5,.own 6,.own 7,.own 8,.int .i64 o1_4,.int .i64 o1_5],.cells [.own 9,.own 10,.own 11,.own 12,.int .i64 o2_4,.int .i64 o2_5],.arr (.st (.pair (.int .i64) .str)) o3,.arr (.st (.pair (.int .i64) (.int .i64))) o4,.arr (.int .i64) o5,.arr (.int .i64) o6,.arr (.st (.pair (.int .i64) (.int .i64))) o7,.arr (.st (.pair (.int .i64) .str)) o8,.arr (.int .i64) o9,.arr (.int .i64) o10,.arr (.st (.pair (.int .i64) (.int .i64))) o11,.arr (.st (.pair (.int .i64) .str)) o12] => some ⟨(a1,a2,o0_2,o1_4,o1_5,o2_4,o2_5,o3,o4,o5,o6,o7,o8,o9,o10,o11,o12),rfl⟩
  | _,_ => none
def decAq20 (l : List AV) (H : List AE.Obj) : Option Aq20 := pk (decPAq20 l H)
theorem decAq20_ok (l : List AV) (H : List AE.Obj) (a : Aq20) (h : decAq20 l H = some a) : (l,H) = argsq20 a := pk_ok (o := decPAq20 l H) h
def outq20 : Aq20 → (AV → List AE.Obj → Ans) → Yq20 → Ans := fun (a1,a2,o0_2,o1_4,o1_5,o2_4,o2_5,o3,o4,o5,o6,o7,o8,o9,o10,o11,o12) K => (Sum.elim (unP fun r_y => unP fun o1_4_y => unP fun o1_5_y => unP fun o2_4_y => unP fun o2_5_y o3_y => K (.int .i64 r_y) [.cells [.ifc 27 (.ptr 1 0),.ifc 27 (.ptr 2 0),.int .i64 o0_2,.own 3,.own 4],.cells [.own 5,.own 6,.own 7,.own 8,.int .i64 o1_4_y,.int .i64 o1_5_y],.cells [.own 9,.own 10,.own 11,.own 12,.int .i64 o2_4_y,.int .i64 o2_5_y],.arr (.st (.pair (.int .i64) .str)) o3_y,.arr (.st (.pair (.int .i64) (.int .i64))) o4,.arr (.int .i64) o5,.arr (.int .i64) o6,.arr (.st (.pair (.int .i64) (.int .i64))) o7,.arr (.st (.pair (.int .i64) .str)) o8,.arr (.int .i64) o9,.arr (.int .i64) o10,.arr (.st (.pair (.int .i64) (.int .i64))) o11,.arr (.st (.pair (.int .i64) .str)) o12]) ((Sum.elim (unP fun r_y => unP fun o1_4_y => unP fun o1_5_y => unP fun o3_y o13_y => K (.int .i64 r_y) [.cells [.ifc 27 (.ptr 1 0),.ifc 27 (.ptr 2 0),.int .i64 o0_2,.own 3,.own 4],.cells [.own 5,.own 6,.own 7,.own 13,.int .i64 o1_4_y,.int .i64 o1_5_y],.cells [.own 9,.own 10,.own 11,.own 12,.int .i64 o2_4,.int .i64 o2_5],.arr (.st (.pair (.int .i64) .str)) o3_y,.arr (.st (.pair (.int .i64) (.int .i64))) o4,.arr (.int .i64) o5,.arr (.int .i64) o6,.arr (.st (.pair (.int .i64) (.int .i64))) o7,.arr (.st (.pair (.int .i64) .str)) o8,.arr (.int .i64) o9,.arr (.int .i64) o10,.arr (.st (.pair (.int .i64) (.int .i64))) o11,.arr (.st (.pair (.int .i64) .str)) o12,.arr (.st (.pair (.int .i64) .str)) o13_y]) (unP fun r_y => unP fun o2_4_y => unP fun o2_5_y => unP fun o3_y o13_y => K (.int .i64 r_y) [.cells [.ifc 27 (.ptr 1 0),.ifc 27 (.ptr 2 0),.int .i64 o0_2,.own 3,.own 4],.cells [.own 5,.own 6,.own 7,.own 8,.int .i64 o1_4,.int .i64 o1_5],.cells [.own 9,.own 10,.own 11,.own 13,.int .i64 o2_4_y,.int .i64 o2_5_y],.arr (.st (.pair (.int .i64) .str)) o3_y,.arr (.st (.pair (.int .i64) (.int .i64))) o4,.arr (.int .i64) o5,.arr (.int .i64) o6,.arr (.st (.pair (.int .i64) (.int .i64))) o7,.arr (.st (.pair (.int .i64) .str)) o8,.arr (.int .i64) o9,.arr (.int .i64) o10,.arr (.st (.pair (.int .i64) (.int .i64))) o11,.arr (.st (.pair (.int .i64) .str)) o12,.arr (.st (.pair (.int .i64) .str)) o13_y]))))
theorem fnq20_ok (a : Aq20) (K : AV → List AE.Obj → Ans) : fnE Try.tab envq20 noHint 0 70 9 Try.f9.ntmps Try.f9.results.toList annq20 bq20 (argsq20 a).1 (argsq20 a).2 K = fnq20 a (outq20 a K) := by kernel_rfl
def vFq20 (a : Aq20) (K : AV → List AE.Obj → Ans) : Ans := bindO (fnDq20 a) fun y => outq20 a K y
def Fq20 : List AV → List AE.Obj → (AV → List AE.Obj → Ans) → Ans := fun l H K => bindO (decAq20 l H) fun a => vFq20 a K
theorem Fq20_ok : FuncOk Try.prog 9 Fq20 := func_mkD (hint := noHint) (d := 0) (n := 70) mixed tabOk envq20Ok Try.func9 (bodySome (by kernel_rfl)) (by decide +kernel) annq20_ok decAq20_ok fnq20_ok fnq20_nat
--@ law44_Tape_Flush
noncomputable def envq36 : Env := [(15,.func Fq43)]
theorem envq36Ok : EnvOk Try.prog envq36 := EnvOk.cons Fq43_ok (EnvOk.nil)
noncomputable def bq36 : Code := Try.f40.body.getD .skip
noncomputable def annq36 : Ann := .none
theorem annq36_ok : AnnOk Try.prog 8 bq36 annq36 := (annOk_none _ _ _)
abbrev Aq36 := (Int) × (Int) × (List Int) × (List Int) × (List (Int × Int)) × (List (Int × List UInt8))
abbrev Yq36 := (Int) × (Int) × (Int) × (Int) × (Int)
def fnq36 {β : Type} : Aq36 → (Yq36 → Option β) → Option β := fun (o0_4,o0_5,o1,o2,o3,o4) exit => (bindO (fnDq43 (o0_4,o0_5,o1,o2,o3,o4)) (unP fun r_0_0 => unP fun r_0_1 => unP fun r_1 => unP fun o0_4_2 o0_5_2 => (exit (r_0_0,r_0_1,r_1,o0_4_2,o0_5_2))))
def fnDq36 (a : Aq36) : Option Yq36 := fnq36 a some
theorem fnq36_nat (a : Aq36) (k : Yq36 → Ans) : fnq36 a k = bindO (fnDq36 a) k := by
  obtain ⟨o0_4,o0_5,o1,o2,o3,o4⟩ := a
  simp only [fnDq36,fnq36,bindO_cond,bindO_assoc,bindO_none,bindO_pure,bindO_elim,bindO_unP,bindO_empty]
def argsq36 : Aq36 → List AV × List AE.Obj := fun (o0_4,o0_5,o1,o2,o3,o4) => ([.ptr 0 0],[.cells [.own 1,.own 2,.own 3,.own 4,.int .i64 o0_4,.int .i64 o0_5],.arr (.int .i64) o1,.arr (.int .i64) o2,.arr (.st (.pair (.int .i64) (.int .i64))) o3,.arr (.st (.pair (.int .i64) .str)) o4])
def decPAq36 (l : List AV) (H : List AE.Obj) : Option {a : Aq36 // (l,H) = argsq36 a} := match l,H with
  | [.ptr 0 0],[.cells [.own 1,.own 2,.own 3,.own 4,.int .i64 o0_4,.int .i64 o0_5],.arr (.int .i64) o1,.arr (.int .i64) o2,.arr (.st (.pair (.int .i64) (.int .i64))) o3,.arr (.st (.pair (.int .i64) .str)) o4] => some ⟨(o0_4,o0_5,o1,o2,o3,o4),rfl⟩
  | _,_ => none
def decAq36 (l : List AV) (H : List AE.Obj) : Option Aq36 := pk (decPAq36 l H)
theorem decAq36_ok (l : List AV) (H : List AE.Obj) (a : Aq36) (h : decAq36 l H = some a) : (l,H) = argsq36 a := pk_ok (o := decPAq36 l H) h
def outq36 : Aq36 → (AV → List AE.Obj → Ans) → Yq36 → Ans := fun (o0_4,o0_5,o1,o2,o3,o4) K => unP fun r_0_0_y => unP fun r_0_1_y => unP fun r_1_y => unP fun o0_4_y o0_5_y => K (.tup [.agg [.int .i64 r_0_0_y,.int .i64 r_0_1_y],.int .i64 r_1_y]) [.cells [.own 1,.own 2,.own 3,.own 4,.int .i64 o0_4_y,.int .i64 o0_5_y],.arr (.int .i64) o1,.arr (.int .i64) o2,.arr (.st (.pair (.int .i64) (.int .i64))) o3,.arr (.st (.pair (.int .i64) .str)) o4]
theorem fnq36_ok (a : Aq36) (K : AV → List AE.Obj → Ans) : fnE Try.tab envq36 noHint 0 70 40 Try.f40.ntmps Try.f40.results.toList annq36 bq36 (argsq36 a).1 (argsq36 a).2 K = fnq36 a (outq36 a K) := by kernel_rfl
def vFq36 (a : Aq36) (K : AV → List AE.Obj → Ans) : Ans := bindO (fnDq36 a) fun y => outq36 a K y
def Fq36 : List AV → List AE.Obj → (AV → List AE.Obj → Ans) → Ans := fun l H K => bindO (decAq36 l H) fun a => vFq36 a K
theorem Fq36_ok : FuncOk Try.prog 40 Fq36 := func_mkD (hint := noHint) (d := 0) (n := 70) mixed tabOk envq36Ok Try.func40 (bodySome (by kernel_rfl)) (by decide +kernel) annq36_ok decAq36_ok fnq36_ok fnq36_nat
--@ client_Client_forget
noncomputable def envq24 : Env := []
theorem envq24Ok : EnvOk Try.prog envq24 := EnvOk.nil
noncomputable def bq24 : Code := Try.f22.body.getD .skip
noncomputable def Lq24_n0 : Code := codeAt [1,1,1,1,0,0] bq24
noncomputable def annLq24_n0 : Ann := .at 13 [0,1,30,31] (.loop .none)
theorem annLq24_n0_ok : AnnOk Try.prog 53 (.loop Lq24_n0) annLq24_n0 := annOk_at (annOk_none _ _ _)
abbrev Iq24_n0 := (Int) × (Int) × (Int) × (Int) × (Int) × (Int) × (Int) × (List (Int × List UInt8)) × (List Int) × (List Int) × (List (Int × Int)) × (List (Int × List UInt8)) × (List Int) × (List Int) × (List (Int × Int)) × (List (Int × List UInt8)) × (List (Int × List UInt8))
abbrev Yq24_n0 := (List (Int × Int))
abbrev Vq24_n0 := (Int) × (List (Int × Int))
def Sq24_n0 : Iq24_n0 → Vq24_n0 → St := fun (t1,t30,o0_2,o1_4,o1_5,o2_4,o2_5,o3,o5,o6,o7,o8,o9,o10,o11,o12,o13) (t31,o4) => { env := [(0,.ptr 0 0),(1,.int .i64 t1),(30,.int .i64 t30),(31,.int .i64 t31)],stk := [[(0,.ptr 0 0),(1,.ptr 1 0),(2,.ptr 2 0)]],H := [.cells [.ifc 27 (.ptr 1 0),.ifc 27 (.ptr 2 0),.int .i64 o0_2,.own 13,.own 4],.cells [.own 5,.own 6,.own 7,.own 8,.int .i64 o1_4,.int .i64 o1_5],.cells [.own 9,.own 10,.own 11,.own 12,.int .i64 o2_4,.int .i64 o2_5],.arr (.st (.pair (.int .i64) .str)) o3,.arr (.st (.pair (.int .i64) (.int .i64))) o4,.arr (.int .i64) o5,.arr (.int .i64) o6,.arr (.st (.pair (.int .i64) (.int .i64))) o7,.arr (.st (.pair (.int .i64) .str)) o8,.arr (.int .i64) o9,.arr (.int .i64) o10,.arr (.st (.pair (.int .i64) (.int .i64))) o11,.arr (.st (.pair (.int .i64) .str)) o12,.arr (.st (.pair (.int .i64) .str)) o13],blk := 90112 }
def decPq24_n0 (s : St) : Option {x : Iq24_n0 × Vq24_n0 // s = Sq24_n0 x.1 x.2} := match s with
  | { env := [(0,.ptr 0 0),(1,.int .i64 t1),(30,.int .i64 t30),(31,.int .i64 t31)],stk := [[(0,.ptr 0 0),(1,.ptr 1 0),(2,.ptr 2 0)]],H := [.cells [.ifc 27 (.ptr 1 0),.ifc 27 (.ptr 2 0),.int .i64 o0_2,.own 13,.own 4],.cells [.own 5,.own 6,.own 7,.own 8,.int .i64 o1_4,.int .i64 o1_5],.cells [.own 9,.own 10,.own 11,.own 12,.int .i64 o2_4,.int .i64 o2_5],.arr (.st (.pair (.int .i64) .str)) o3,.arr (.st (.pair (.int .i64) (.int .i64))) o4,.arr (.int .i64) o5,.arr (.int .i64) o6,.arr (.st (.pair (.int .i64) (.int .i64))) o7,.arr (.st (.pair (.int .i64) .str)) o8,.arr (.int .i64) o9,.arr (.int .i64) o10,.arr (.st (.pair (.int .i64) (.int .i64))) o11,.arr (.st (.pair (.int .i64) .str)) o12,.arr (.st (.pair (.int .i64) .str)) o13],blk := 90112 } => some ⟨((t1,t30,o0_2,o1_4,o1_5,o2_4,o2_5,o3,o5,o6,o7,o8,o9,o10,o11,o12,o13),(t31,o4)),rfl⟩
  | _ => none
def decq24_n0 (s : St) : Option (Iq24_n0 × Vq24_n0) := pk (decPq24_n0 s)
theorem decq24_n0_ok (s : St) (x : Iq24_n0 × Vq24_n0) (h : decq24_n0 s = some x) : s = Sq24_n0 x.1 x.2 := pk_ok (o := decPq24_n0 s) h
def outq24_n0 : Iq24_n0 → (Ex → St → Ans) → Yq24_n0 → Ans := fun (t1,t30,o0_2,o1_4,o1_5,o2_4,o2_5,o3,o5,o6,o7,o8,o9,o10,o11,o12,o13) K => fun o4_y => K (Ex.exit 0) { env := [],stk := [[(0,.ptr 0 0),(1,.ptr 1 0),(2,.ptr 2 0)]],H := [.cells [.ifc 27 (.ptr 1 0),.ifc 27 (.ptr 2 0),.int .i64 o0_2,.own 13,.own 4],.cells [.own 5,.own 6,.own 7,.own 8,.int .i64 o1_4,.int .i64 o1_5],.cells [.own 9,.own 10,.own 11,.own 12,.int .i64 o2_4,.int .i64 o2_5],.arr (.st (.pair (.int .i64) .str)) o3,.arr (.st (.pair (.int .i64) (.int .i64))) o4_y,.arr (.int .i64) o5,.arr (.int .i64) o6,.arr (.st (.pair (.int .i64) (.int .i64))) o7,.arr (.st (.pair (.int .i64) .str)) o8,.arr (.int .i64) o9,.arr (.int .i64) o10,.arr (.st (.pair (.int .i64) (.int .i64))) o11,.arr (.st (.pair (.int .i64) .str)) o12,.arr (.st (.pair (.int .i64) .str)) o13],blk := 90112 }
def stepq24_n0 {β : Type} : Iq24_n0 → Vq24_n0 → (Vq24_n0 → Option β) → (Yq24_n0 → Option β) → Option β := fun (t1,t30,o0_2,o1_4,o1_5,o2_4,o2_5,o3,o5,o6,o7,o8,o9,o10,o11,o12,o13) (t31,o4) next exit => (bif decide (t31 < t30) then (bif inR t31 (List.length o4) then (bindO (o4[Int.toNat t31]?) fun x => (bif inR t31 (List.length o4) then (bindO (o4[Int.toNat t31]?) fun x_2 => (next (IntKind.wrap .i64 (t31 + (1 : Int)),List.set o4 (Int.toNat t31) (x_2.fst,if (0 : Int) > IntKind.wrap .i64 (x.snd - t1) then (0 : Int) else IntKind.wrap .i64 (x.snd - t1))))) else none)) else none) else (exit (o4)))
def stepDq24_n0 (i : Iq24_n0) (v : Vq24_n0) : Option (Vq24_n0 ⊕ Yq24_n0) := stepq24_n0 i v (fun v => some (.inl v)) (fun y => some (.inr y))
theorem stepq24_n0_nat (i : Iq24_n0) (v : Vq24_n0) (next : Vq24_n0 → Ans) (exit : Yq24_n0 → Ans) : stepq24_n0 i v next exit = bindO (stepDq24_n0 i v) (Sum.elim next exit) := by
  obtain ⟨t1,t30,o0_2,o1_4,o1_5,o2_4,o2_5,o3,o5,o6,o7,o8,o9,o10,o11,o12,o13⟩ := i
  obtain ⟨t31,o4⟩ := v
  simp only [stepDq24_n0,stepq24_n0,bindO_cond,bindO_assoc,bindO_none,bindO_pure,bindO_elim,bindO_unP,bindO_empty,Sum.elim_inl,Sum.elim_inr]
theorem stepq24_n0_ok (n : Nat) (i : Iq24_n0) (v : Vq24_n0) (K : Ex → St → Ans) : codeI Try.tab envq24 noHint (codeD Try.tab envq24 noHint 0 64) (n+1) 53 annLq24_n0 (.loop Lq24_n0) (weakP 13 (exk [] [] [(0,[])]) K) (Sq24_n0 i v) = stepq24_n0 i v (fun v' => codeI Try.tab envq24 noHint (codeD Try.tab envq24 noHint 0 64) n 53 annLq24_n0 (.loop Lq24_n0) (weakP 13 (exk [] [] [(0,[])]) K) (Sq24_n0 i v')) (fun y => outq24_n0 i K y) := by kernel_rfl
theorem GNq24_n0_ok : CSum Try.prog 53 (.loop Lq24_n0) (sumL decq24_n0 stepDq24_n0 outq24_n0) := csum_loop mixed tabOk envq24Ok 13 (exk [] [] [(0,[])]) annLq24_n0_ok decq24_n0_ok stepq24_n0_ok stepq24_n0_nat
noncomputable def Gq24_n0 : (Ex → St → Ans) → St → Ans := (sumL decq24_n0 stepDq24_n0 outq24_n0)
theorem Gq24_n0_ok : CSum Try.prog 53 (.loop Lq24_n0) Gq24_n0 := GNq24_n0_ok
noncomputable def annq24 : Ann := (.seq .none (.seq .none (.seq .none (.seq .none (.block (.cut 13 [0,1,30,31] Gq24_n0))))))
theorem annq24_ok : AnnOk Try.prog 53 bq24 annq24 := ⟨(annOk_none _ _ _),⟨(annOk_none _ _ _),⟨(annOk_none _ _ _),⟨(annOk_none _ _ _),Gq24_n0_ok⟩⟩⟩⟩
abbrev Aq24 := (Int) × (Int) × (Int) × (Int) × (Int) × (Int) × (List (Int × List UInt8)) × (List (Int × Int)) × (List Int) × (List Int) × (List (Int × Int)) × (List (Int × List UInt8)) × (List Int) × (List Int) × (List (Int × Int)) × (List (Int × List UInt8))
abbrev Yq24 := (List (Int × Int)) × (List (Int × List UInt8))
def fnq24 {β : Type} : Aq24 → (Yq24 → Option β) → Option β := fun (a1,o0_2,o1_4,o1_5,o2_4,o2_5,o3,o4,o5,o6,o7,o8,o9,o10,o11,o12) exit => (bif decide ((0 : Int) ≤ IntKind.wrap .i64 ((↑(List.length o3) : Int) - a1)) && decide (IntKind.wrap .i64 ((↑(List.length o3) : Int) - a1) ≤ IntKind.wrap .i64 ((↑(List.length o3) : Int) - a1)) && decide ((24 : Int) * IntKind.wrap .i64 ((↑(List.length o3) : Int) - a1) ≤ (281474976710656 : Int)) && decide (IntKind.wrap .i64 ((↑(List.length o3) : Int) - a1) ≤ (9223372036854775807 : Int)) then (bif inR a1 (List.length o3 + (1 : Nat)) then (bif Nat.ble (Int.toNat a1 + (List.length o3 - Int.toNat a1)) (List.length o3) then (bindO (loopD (stepDq24_n0 (a1,(↑(List.length o4) : Int),o0_2,o1_4,o1_5,o2_4,o2_5,o3,o5,o6,o7,o8,o9,o10,o11,o12,List.take (List.length (List.replicate (Int.toNat (IntKind.wrap .i64 ((↑(List.length o3) : Int) - a1))) ((0 : Int),nilL UInt8))) (List.take (List.length o3 - Int.toNat a1) (List.drop (Int.toNat a1) o3)) ++ List.drop (List.length (List.take (List.length o3 - Int.toNat a1) (List.drop (Int.toNat a1) o3))) (List.replicate (Int.toNat (IntKind.wrap .i64 ((↑(List.length o3) : Int) - a1))) ((0 : Int),nilL UInt8)))) FUEL ((0 : Int),o4)) fun o4_2 => (exit (o4_2,List.take (List.length (List.replicate (Int.toNat (IntKind.wrap .i64 ((↑(List.length o3) : Int) - a1))) ((0 : Int),nilL UInt8))) (List.take (List.length o3 - Int.toNat a1) (List.drop (Int.toNat a1) o3)) ++ List.drop (List.length (List.take (List.length o3 - Int.toNat a1) (List.drop (Int.toNat a1) o3))) (List.replicate (Int.toNat (IntKind.wrap .i64 ((↑(List.length o3) : Int) - a1))) ((0 : Int),nilL UInt8))))) else none) else none) else none)
def fnDq24 (a : Aq24) : Option Yq24 := fnq24 a some
theorem fnq24_nat (a : Aq24) (k : Yq24 → Ans) : fnq24 a k = bindO (fnDq24 a) k := by
  obtain ⟨a1,o0_2,o1_4,o1_5,o2_4,o2_5,o3,o4,o5,o6,o7,o8,o9,o10,o11,o12⟩ := a
  simp only [fnDq24,fnq24,bindO_cond,bindO_assoc,bindO_none,bindO_pure,bindO_elim,bindO_unP,bindO_empty]
def argsq24 : Aq24 → List AV × List AE.Obj := fun (a1,o0_2,o1_4,o1_5,o2_4,o2_5,o3,o4,o5,o6,o7,o8,o9,o10,o11,o12) => ([.ptr 0 0,.int .i64 a1],[.cells [.ifc 27 (.ptr 1 0),.ifc 27 (.ptr 2 0),.int .i64 o0_2,.own 3,.own 4],.cells [.own 5,.own 6,.own 7,.own 8,.int .i64 o1_4,.int .i64 o1_5],.cells [.own 9,.own 10,.own 11,.own 12,.int .i64 o2_4,.int .i64 o2_5],.arr (.st (.pair (.int .i64) .str)) o3,.arr (.st (.pair (.int .i64) (.int .i64))) o4,.arr (.int .i64) o5,.arr (.int .i64) o6,.arr (.st (.pair (.int .i64) (.int .i64))) o7,.arr (.st (.pair (.int .i64) .str)) o8,.arr (.int .i64) o9,.arr (.int .i64) o10,.arr (.st (.pair (.int .i64) (.int .i64))) o11,.arr (.st (.pair (.int .i64) .str)) o12])
def decPAq24 (l : List AV) (H : List AE.Obj) : Option {a : Aq24 // (l,H) = argsq24 a} := match l,H with
  | [.ptr 0 0,.int .i64 a1],[.cells [.ifc 27 (.ptr 1 0),.ifc 27 (.ptr 2 0),.int .i64 o0_2,.own 3,.own 4],.cells [.own 5,.own 6,.own 7,.own 8,.int .i64 o1_4,.int .i64 o1_5],.cells [.own 9,.own 10,.own 11,.own 12,.int .i64 o2_4,.int .i64 o2_5],.arr (.st (.pair (.int .i64) .str)) o3,.arr (.st (.pair (.int .i64) (.int .i64))) o4,.arr (.int .i64) o5,.arr (.int .i64) o6,.arr (.st (.pair (.int .i64) (.int .i64))) o7,.arr (.st (.pair (.int .i64) .str)) o8,.arr (.int .i64) o9,.arr (.int .i64) o10,.arr (.st (.pair (.int .i64) (.int .i64))) o11,.arr (.st (.pair (.int .i64) .str)) o12] => some ⟨(a1,o0_2,o1_4,o1_5,o2_4,o2_5,o3,o4,o5,o6,o7,o8,o9,o10,o11,o12),rfl⟩
  | _,_ => none
def decAq24 (l : List AV) (H : List AE.Obj) : Option Aq24 := pk (decPAq24 l H)
theorem decAq24_ok (l : List AV) (H : List AE.Obj) (a : Aq24) (h : decAq24 l H = some a) : (l,H) = argsq24 a := pk_ok (o := decPAq24 l H) h
def outq24 : Aq24 → (AV → List AE.Obj → Ans) → Yq24 → Ans := fun (a1,o0_2,o1_4,o1_5,o2_4,o2_5,o3,o4,o5,o6,o7,o8,o9,o10,o11,o12) K => unP fun o4_y o13_y => K (.tup []) [.cells [.ifc 27 (.ptr 1 0),.ifc 27 (.ptr 2 0),.int .i64 o0_2,.own 13,.own 4],.cells [.own 5,.own 6,.own 7,.own 8,.int .i64 o1_4,.int .i64 o1_5],.cells [.own 9,.own 10,.own 11,.own 12,.int .i64 o2_4,.int .i64 o2_5],.arr (.st (.pair (.int .i64) .str)) o3,.arr (.st (.pair (.int .i64) (.int .i64))) o4_y,.arr (.int .i64) o5,.arr (.int .i64) o6,.arr (.st (.pair (.int .i64) (.int .i64))) o7,.arr (.st (.pair (.int .i64) .str)) o8,.arr (.int .i64) o9,.arr (.int .i64) o10,.arr (.st (.pair (.int .i64) (.int .i64))) o11,.arr (.st (.pair (.int .i64) .str)) o12,.arr (.st (.pair (.int .i64) .str)) o13_y]
theorem fnq24_ok (a : Aq24) (K : AV → List AE.Obj → Ans) : fnE Try.tab envq24 noHint 0 70 22 Try.f22.ntmps Try.f22.results.toList annq24 bq24 (argsq24 a).1 (argsq24 a).2 K = fnq24 a (outq24 a K) := by kernel_rfl
def vFq24 (a : Aq24) (K : AV → List AE.Obj → Ans) : Ans := bindO (fnDq24 a) fun y => outq24 a K y
def Fq24 : List AV → List AE.Obj → (AV → List AE.Obj → Ans) → Ans := fun l H K => bindO (decAq24 l H) fun a => vFq24 a K
theorem Fq24_ok : FuncOk Try.prog 22 Fq24 := func_mkD (hint := noHint) (d := 0) (n := 70) mixed tabOk envq24Ok Try.func22 (bodySome (by kernel_rfl)) (by decide +kernel) annq24_ok decAq24_ok fnq24_ok fnq24_nat
--@ client_Client_Flush
noncomputable def envq3 : Env := [(21,.func Fq26),(40,.func Fq36),(22,.func Fq24)]
theorem envq3Ok : EnvOk Try.prog envq3 := EnvOk.cons Fq26_ok (EnvOk.cons Fq36_ok (EnvOk.cons Fq24_ok (EnvOk.nil)))
noncomputable def bq3 : Code := Try.f10.body.getD .skip
noncomputable def annq3 : Ann := .none
theorem annq3_ok : AnnOk Try.prog 52 bq3 annq3 := (annOk_none _ _ _)
abbrev Aq3 := (Int) × (Int) × (Int) × (Int) × (Int) × (List (Int × List UInt8)) × (List (Int × Int)) × (List Int) × (List Int) × (List (Int × Int)) × (List (Int × List UInt8)) × (List Int) × (List Int) × (List (Int × Int)) × (List (Int × List UInt8))
abbrev Yq3 := ((Int) × (Int) × (Int) × (Int) × (Int) × (List (Int × Int))) ⊕ ((Int) × (Int) × (Int) × (Int) × (List (Int × Int)) × (List (Int × List UInt8)))
def fnq3 {β : Type} : Aq3 → (Yq3 → Option β) → Option β := fun (o0_2,o1_4,o1_5,o2_4,o2_5,o3,o4,o5,o6,o7,o8,o9,o10,o11,o12) exit => (bindO (fnDq26 (o0_2,o1_4,o1_5,o2_4,o2_5,o3,o4,o5,o6,o7,o8,o9,o10,o11,o12)) (Sum.elim (fun _ => (bindO (fnDq36 (o1_4,o1_5,o5,o6,o7,o8)) (unP fun r_0_0 => unP fun r_0_1 => unP fun r_1 => unP fun o0_4 o0_5 => (bif r_1 != (0 : Int) then (exit (Sum.inl (r_1,o0_4,o0_5,o2_4,o2_5,o4))) else (bif r_0_1 == (2 : Int) then (bindO (fnDq24 ((↑(List.length o3) : Int),o0_2,o0_4,o0_5,o2_4,o2_5,o3,o4,o5,o6,o7,o8,o9,o10,o11,o12)) (unP fun o4_2 o13 => (exit (Sum.inr (o0_4,o0_5,o2_4,o2_5,o4_2,o13))))) else (bif r_0_1 == (1 : Int) then (exit (Sum.inl ((0 : Int),o0_4,o0_5,o2_4,o2_5,o4))) else (bif Nat.ble ((List.length o4 + List.length [(r_0_0,(↑(List.length o3) : Int))]) * (16 : Nat)) (140737488355328 : Nat) then (exit (Sum.inl ((0 : Int),o0_4,o0_5,o2_4,o2_5,o4 ++ [(r_0_0,(↑(List.length o3) : Int))]))) else none))))))) (fun _ => (bindO (fnDq36 (o2_4,o2_5,o9,o10,o11,o12)) (unP fun r_0_0 => unP fun r_0_1 => unP fun r_1 => unP fun o0_4 o0_5 => (bif r_1 != (0 : Int) then (exit (Sum.inl (r_1,o1_4,o1_5,o0_4,o0_5,o4))) else (bif r_0_1 == (2 : Int) then (bindO (fnDq24 ((↑(List.length o3) : Int),o0_2,o1_4,o1_5,o0_4,o0_5,o3,o4,o5,o6,o7,o8,o9,o10,o11,o12)) (unP fun o4_2 o13 => (exit (Sum.inr (o1_4,o1_5,o0_4,o0_5,o4_2,o13))))) else (bif r_0_1 == (1 : Int) then (exit (Sum.inl ((0 : Int),o1_4,o1_5,o0_4,o0_5,o4))) else (bif Nat.ble ((List.length o4 + List.length [(r_0_0,(↑(List.length o3) : Int))]) * (16 : Nat)) (140737488355328 : Nat) then (exit (Sum.inl ((0 : Int),o1_4,o1_5,o0_4,o0_5,o4 ++ [(r_0_0,(↑(List.length o3) : Int))]))) else none)))))))))
def fnDq3 (a : Aq3) : Option Yq3 := fnq3 a some
theorem fnq3_nat (a : Aq3) (k : Yq3 → Ans) : fnq3 a k = bindO (fnDq3 a) k := by
  obtain ⟨o0_2,o1_4,o1_5,o2_4,o2_5,o3,o4,o5,o6,o7,o8,o9,o10,o11,o12⟩ := a
  simp only [fnDq3,fnq3,bindO_cond,bindO_assoc,bindO_none,bindO_pure,bindO_elim,bindO_unP,bindO_empty]
def argsq3 : Aq3 → List AV × List AE.Obj := fun (o0_2,o1_4,o1_5,o2_4,o2_5,o3,o4,o5,o6,o7,o8,o9,o10,o11,o12) => ([.ptr 0 0],[.cells [.ifc 27 (.ptr 1 0),.ifc 27 (.ptr 2 0),.int .i64 o0_2,.own 3,.own 4],.cells [.own 5,.own 6,.own 7,.own 8,.int .i64 o1_4,.int .i64 o1_5],.cells [.own 9,.own 10,.own 11,.own 12,.int .i64 o2_4,.int .i64 o2_5],.arr (.st (.pair (.int .i64) .str)) o3,.arr (.st (.pair (.int .i64) (.int .i64))) o4,.arr (.int .i64) o5,.arr (.int .i64) o6,.arr (.st (.pair (.int .i64) (.int .i64))) o7,.arr (.st (.pair (.int .i64) .str)) o8,.arr (.int .i64) o9,.arr (.int .i64) o10,.arr (.st (.pair (.int .i64) (.int .i64))) o11,.arr (.st (.pair (.int .i64) .str)) o12])
def decPAq3 (l : List AV) (H : List AE.Obj) : Option {a : Aq3 // (l,H) = argsq3 a} := match l,H with
  | [.ptr 0 0],[.cells [.ifc 27 (.ptr 1 0),.ifc 27 (.ptr 2 0),.int .i64 o0_2,.own 3,.own 4],.cells [.own 5,.own 6,.own 7,.own 8,.int .i64 o1_4,.int .i64 o1_5],.cells [.own 9,.own 10,.own 11,.own 12,.int .i64 o2_4,.int .i64 o2_5],.arr (.st (.pair (.int .i64) .str)) o3,.arr (.st (.pair (.int .i64) (.int .i64))) o4,.arr (.int .i64) o5,.arr (.int .i64) o6,.arr (.st (.pair (.int .i64) (.int .i64))) o7,.arr (.st (.pair (.int .i64) .str)) o8,.arr (.int .i64) o9,.arr (.int .i64) o10,.arr (.st (.pair (.int .i64) (.int .i64))) o11,.arr (.st (.pair (.int .i64) .str)) o12] => some ⟨(o0_2,o1_4,o1_5,o2_4,o2_5,o3,o4,o5,o6,o7,o8,o9,o10,o11,o12),rfl⟩
  | _,_ => none
def decAq3 (l : List AV) (H : List AE.Obj) : Option Aq3 := pk (decPAq3 l H)
theorem decAq3_ok (l : List AV) (H : List AE.Obj) (a : Aq3) (h : decAq3 l H = some a) : (l,H) = argsq3 a := pk_ok (o := decPAq3 l H) h
def outq3 : Aq3 → (AV → List AE.Obj → Ans) → Yq3 → Ans := fun (o0_2,o1_4,o1_5,o2_4,o2_5,o3,o4,o5,o6,o7,o8,o9,o10,o11,o12) K => (Sum.elim (unP fun r_1_y => unP fun o1_4_y => unP fun o1_5_y => unP fun o2_4_y => unP fun o2_5_y o4_y => K (.tup [.bool (false),.int .i64 r_1_y]) [.cells [.ifc 27 (.ptr 1 0),.ifc 27 (.ptr 2 0),.int .i64 o0_2,.own 3,.own 4],.cells [.own 5,.own 6,.own 7,.own 8,.int .i64 o1_4_y,.int .i64 o1_5_y],.cells [.own 9,.own 10,.own 11,.own 12,.int .i64 o2_4_y,.int .i64 o2_5_y],.arr (.st (.pair (.int .i64) .str)) o3,.arr (.st (.pair (.int .i64) (.int .i64))) o4_y,.arr (.int .i64) o5,.arr (.int .i64) o6,.arr (.st (.pair (.int .i64) (.int .i64))) o7,.arr (.st (.pair (.int .i64) .str)) o8,.arr (.int .i64) o9,.arr (.int .i64) o10,.arr (.st (.pair (.int .i64) (.int .i64))) o11,.arr (.st (.pair (.int .i64) .str)) o12]) (unP fun o1_4_y => unP fun o1_5_y => unP fun o2_4_y => unP fun o2_5_y => unP fun o4_y o13_y => K (.tup [.bool (true),.int .i64 (0)]) [.cells [.ifc 27 (.ptr 1 0),.ifc 27 (.ptr 2 0),.int .i64 o0_2,.own 13,.own 14],.cells [.own 5,.own 6,.own 7,.own 8,.int .i64 o1_4_y,.int .i64 o1_5_y],.cells [.own 9,.own 10,.own 11,.own 12,.int .i64 o2_4_y,.int .i64 o2_5_y],.arr (.st (.pair (.int .i64) .str)) o3,.arr (.st (.pair (.int .i64) (.int .i64))) o4_y,.arr (.int .i64) o5,.arr (.int .i64) o6,.arr (.st (.pair (.int .i64) (.int .i64))) o7,.arr (.st (.pair (.int .i64) .str)) o8,.arr (.int .i64) o9,.arr (.int .i64) o10,.arr (.st (.pair (.int .i64) (.int .i64))) o11,.arr (.st (.pair (.int .i64) .str)) o12,.arr (.st (.pair (.int .i64) .str)) o13_y,.arr (.st (.pair (.int .i64) (.int .i64))) ([])]))
theorem fnq3_ok (a : Aq3) (K : AV → List AE.Obj → Ans) : fnE Try.tab envq3 noHint 0 70 10 Try.f10.ntmps Try.f10.results.toList annq3 bq3 (argsq3 a).1 (argsq3 a).2 K = fnq3 a (outq3 a K) := by kernel_rfl
def vFq3 (a : Aq3) (K : AV → List AE.Obj → Ans) : Ans := bindO (fnDq3 a) fun y => outq3 a K y
def Fq3 : List AV → List AE.Obj → (AV → List AE.Obj → Ans) → Ans := fun l H K => bindO (decAq3 l H) fun a => vFq3 a K
theorem Fq3_ok : FuncOk Try.prog 10 Fq3 := func_mkD (hint := noHint) (d := 0) (n := 70) mixed tabOk envq3Ok Try.func10 (bodySome (by kernel_rfl)) (by decide +kernel) annq3_ok decAq3_ok fnq3_ok fnq3_nat
--@ client_Client_Over
noncomputable def envq11 : Env := [(21,.func Fq26),(42,.func Fq40)]
theorem envq11Ok : EnvOk Try.prog envq11 := EnvOk.cons Fq26_ok (EnvOk.cons Fq40_ok (EnvOk.nil))
noncomputable def bq11 : Code := Try.f12.body.getD .skip
noncomputable def Lq11_n0 : Code := codeAt [1,1,1,1,1,1,0,1,0,0] bq11
noncomputable def annLq11_n0 : Ann := .at 100013 [3,28,29,30] (.loop .none)
theorem annLq11_n0_ok : AnnOk Try.prog 47 (.loop Lq11_n0) annLq11_n0 := annOk_at (annOk_none _ _ _)
abbrev Iq11_n0 := (Int) × (Int) × (Int) × (Int) × (List (Int × List UInt8)) × (List Int) × (List Int) × (List (Int × Int)) × (List Int) × (List Int) × (List (Int × Int)) × (List (Int × List UInt8))
abbrev Yq11_n0 := ((Int) × (Int) × (Int) × (List (Int × List UInt8))) ⊕ ((Int) × (Int) × (List (Int × List UInt8)))
abbrev Vq11_n0 := (Int) × (Int) × (Int) × (List (Int × List UInt8))
def Sq11_n0 : Iq11_n0 → Vq11_n0 → St := fun (t29,o0_2,o2_4,o2_5,o13,o15,o16,o17,o19,o20,o21,o22) (t30,o1_4,o1_5,o18) => { env := [(3,.ifc 27 (.ptr 1 0)),(28,.own 13),(29,.int .i64 t29),(30,.int .i64 t30)],stk := [[(0,.ptr 0 0),(1,.ptr 1 0),(2,.ptr 2 0)]],H := [.cells [.ifc 27 (.ptr 1 0),.ifc 27 (.ptr 2 0),.int .i64 o0_2,.own 13,.own 14],.cells [.own 15,.own 16,.own 17,.own 18,.int .i64 o1_4,.int .i64 o1_5],.cells [.own 19,.own 20,.own 21,.own 22,.int .i64 o2_4,.int .i64 o2_5],.dead,.dead,.dead,.dead,.dead,.dead,.dead,.dead,.dead,.dead,.arr (.st (.pair (.int .i64) .str)) o13,.arr (.st (.pair (.int .i64) (.int .i64))) ([]),.arr (.int .i64) o15,.arr (.int .i64) o16,.arr (.st (.pair (.int .i64) (.int .i64))) o17,.arr (.st (.pair (.int .i64) .str)) o18,.arr (.int .i64) o19,.arr (.int .i64) o20,.arr (.st (.pair (.int .i64) (.int .i64))) o21,.arr (.st (.pair (.int .i64) .str)) o22],blk := 49152 }
def decPq11_n0 (s : St) : Option {x : Iq11_n0 × Vq11_n0 // s = Sq11_n0 x.1 x.2} := match s with
  | { env := [(3,.ifc 27 (.ptr 1 0)),(28,.own 13),(29,.int .i64 t29),(30,.int .i64 t30)],stk := [[(0,.ptr 0 0),(1,.ptr 1 0),(2,.ptr 2 0)]],H := [.cells [.ifc 27 (.ptr 1 0),.ifc 27 (.ptr 2 0),.int .i64 o0_2,.own 13,.own 14],.cells [.own 15,.own 16,.own 17,.own 18,.int .i64 o1_4,.int .i64 o1_5],.cells [.own 19,.own 20,.own 21,.own 22,.int .i64 o2_4,.int .i64 o2_5],.dead,.dead,.dead,.dead,.dead,.dead,.dead,.dead,.dead,.dead,.arr (.st (.pair (.int .i64) .str)) o13,.arr (.st (.pair (.int .i64) (.int .i64))) r8,.arr (.int .i64) o15,.arr (.int .i64) o16,.arr (.st (.pair (.int .i64) (.int .i64))) o17,.arr (.st (.pair (.int .i64) .str)) o18,.arr (.int .i64) o19,.arr (.int .i64) o20,.arr (.st (.pair (.int .i64) (.int .i64))) o21,.arr (.st (.pair (.int .i64) .str)) o22],blk := 49152 } => if h8 : r8 = [] then some ⟨((t29,o0_2,o2_4,o2_5,o13,o15,o16,o17,o19,o20,o21,o22),(t30,o1_4,o1_5,o18)),by subst h8; rfl⟩ else none
  | _ => none
def decq11_n0 (s : St) : Option (Iq11_n0 × Vq11_n0) := pk (decPq11_n0 s)
theorem decq11_n0_ok (s : St) (x : Iq11_n0 × Vq11_n0) (h : decq11_n0 s = some x) : s = Sq11_n0 x.1 x.2 := pk_ok (o := decPq11_n0 s) h
def outq11_n0 : Iq11_n0 → (Ex → St → Ans) → Yq11_n0 → Ans := fun (t29,o0_2,o2_4,o2_5,o13,o15,o16,o17,o19,o20,o21,o22) K => (Sum.elim (unP fun t2_y => unP fun o1_4_y => unP fun o1_5_y o18_y => K (Ex.ret) { env := [(2,.int .i64 t2_y)],stk := [[(0,.ptr 0 0),(1,.ptr 1 0),(2,.ptr 2 0)]],H := [.cells [.ifc 27 (.ptr 1 0),.ifc 27 (.ptr 2 0),.int .i64 o0_2,.own 13,.own 14],.cells [.own 15,.own 16,.own 17,.own 18,.int .i64 o1_4_y,.int .i64 o1_5_y],.cells [.own 19,.own 20,.own 21,.own 22,.int .i64 o2_4,.int .i64 o2_5],.dead,.dead,.dead,.dead,.dead,.dead,.dead,.dead,.dead,.dead,.arr (.st (.pair (.int .i64) .str)) o13,.arr (.st (.pair (.int .i64) (.int .i64))) ([]),.arr (.int .i64) o15,.arr (.int .i64) o16,.arr (.st (.pair (.int .i64) (.int .i64))) o17,.arr (.st (.pair (.int .i64) .str)) o18_y,.arr (.int .i64) o19,.arr (.int .i64) o20,.arr (.st (.pair (.int .i64) (.int .i64))) o21,.arr (.st (.pair (.int .i64) .str)) o22],blk := 49153 }) (unP fun o1_4_y => unP fun o1_5_y o18_y => K (Ex.exit 0) { env := [],stk := [[(0,.ptr 0 0),(1,.ptr 1 0),(2,.ptr 2 0)]],H := [.cells [.ifc 27 (.ptr 1 0),.ifc 27 (.ptr 2 0),.int .i64 o0_2,.own 13,.own 14],.cells [.own 15,.own 16,.own 17,.own 18,.int .i64 o1_4_y,.int .i64 o1_5_y],.cells [.own 19,.own 20,.own 21,.own 22,.int .i64 o2_4,.int .i64 o2_5],.dead,.dead,.dead,.dead,.dead,.dead,.dead,.dead,.dead,.dead,.arr (.st (.pair (.int .i64) .str)) o13,.arr (.st (.pair (.int .i64) (.int .i64))) ([]),.arr (.int .i64) o15,.arr (.int .i64) o16,.arr (.st (.pair (.int .i64) (.int .i64))) o17,.arr (.st (.pair (.int .i64) .str)) o18_y,.arr (.int .i64) o19,.arr (.int .i64) o20,.arr (.st (.pair (.int .i64) (.int .i64))) o21,.arr (.st (.pair (.int .i64) .str)) o22],blk := 49152 }))
def stepq11_n0 {β : Type} : Iq11_n0 → Vq11_n0 → (Vq11_n0 → Option β) → (Yq11_n0 → Option β) → Option β := fun (t29,o0_2,o2_4,o2_5,o13,o15,o16,o17,o19,o20,o21,o22) (t30,o1_4,o1_5,o18) next exit => (bif decide (t30 < t29) then (bif inR t30 (List.length o13) then (bindO (o13[Int.toNat t30]?) fun x => (bindO (fnDq40 (x.fst,x.snd,o1_4,o1_5,o15,o16,o17,o18)) (Sum.elim (unP fun r_0_0 => unP fun r_0_1 => unP fun r_1 => unP fun o0_4 => unP fun o0_5 o5 => (bif r_1 != (0 : Int) then (exit (Sum.inl (r_1,o0_4,o0_5,o5))) else (next (IntKind.wrap .i64 (t30 + (1 : Int)),o0_4,o0_5,o5)))) (unP fun r_0_0 => unP fun r_0_1 => unP fun r_1 => unP fun o0_4 o0_5 => (bif r_1 != (0 : Int) then (exit (Sum.inl (r_1,o0_4,o0_5,o18))) else (next (IntKind.wrap .i64 (t30 + (1 : Int)),o0_4,o0_5,o18))))))) else none) else (exit (Sum.inr (o1_4,o1_5,o18))))
def stepDq11_n0 (i : Iq11_n0) (v : Vq11_n0) : Option (Vq11_n0 ⊕ Yq11_n0) := stepq11_n0 i v (fun v => some (.inl v)) (fun y => some (.inr y))
theorem stepq11_n0_nat (i : Iq11_n0) (v : Vq11_n0) (next : Vq11_n0 → Ans) (exit : Yq11_n0 → Ans) : stepq11_n0 i v next exit = bindO (stepDq11_n0 i v) (Sum.elim next exit) := by
  obtain ⟨t29,o0_2,o2_4,o2_5,o13,o15,o16,o17,o19,o20,o21,o22⟩ := i
  obtain ⟨t30,o1_4,o1_5,o18⟩ := v
  simp only [stepDq11_n0,stepq11_n0,bindO_cond,bindO_assoc,bindO_none,bindO_pure,bindO_elim,bindO_unP,bindO_empty,Sum.elim_inl,Sum.elim_inr]
theorem stepq11_n0_ok (n : Nat) (i : Iq11_n0) (v : Vq11_n0) (K : Ex → St → Ans) : codeI Try.tab envq11 noHint (codeD Try.tab envq11 noHint 0 64) (n+1) 47 annLq11_n0 (.loop Lq11_n0) (weakP 100013 (exk [] [2] [(0,[])]) K) (Sq11_n0 i v) = stepq11_n0 i v (fun v' => codeI Try.tab envq11 noHint (codeD Try.tab envq11 noHint 0 64) n 47 annLq11_n0 (.loop Lq11_n0) (weakP 100013 (exk [] [2] [(0,[])]) K) (Sq11_n0 i v')) (fun y => outq11_n0 i K y) := by kernel_rfl
theorem GNq11_n0_ok : CSum Try.prog 47 (.loop Lq11_n0) (sumL decq11_n0 stepDq11_n0 outq11_n0) := csum_loop mixed tabOk envq11Ok 100013 (exk [] [2] [(0,[])]) annLq11_n0_ok decq11_n0_ok stepq11_n0_ok stepq11_n0_nat
abbrev Iq11_n0v1 := (Int) × (Int) × (Int) × (Int) × (List (Int × List UInt8)) × (List Int) × (List Int) × (List (Int × Int)) × (List (Int × List UInt8)) × (List Int) × (List Int) × (List (Int × Int))
abbrev Yq11_n0v1 := ((Int) × (Int) × (Int) × (List (Int × List UInt8))) ⊕ ((Int) × (Int) × (List (Int × List UInt8)))
abbrev Vq11_n0v1 := (Int) × (Int) × (Int) × (List (Int × List UInt8))
def Sq11_n0v1 : Iq11_n0v1 → Vq11_n0v1 → St := fun (t29,o0_2,o1_4,o1_5,o13,o15,o16,o17,o18,o19,o20,o21) (t30,o2_4,o2_5,o22) => { env := [(3,.ifc 27 (.ptr 2 0)),(28,.own 13),(29,.int .i64 t29),(30,.int .i64 t30)],stk := [[(0,.ptr 0 0),(1,.ptr 1 0),(2,.ptr 2 0)]],H := [.cells [.ifc 27 (.ptr 1 0),.ifc 27 (.ptr 2 0),.int .i64 o0_2,.own 13,.own 14],.cells [.own 15,.own 16,.own 17,.own 18,.int .i64 o1_4,.int .i64 o1_5],.cells [.own 19,.own 20,.own 21,.own 22,.int .i64 o2_4,.int .i64 o2_5],.dead,.dead,.dead,.dead,.dead,.dead,.dead,.dead,.dead,.dead,.arr (.st (.pair (.int .i64) .str)) o13,.arr (.st (.pair (.int .i64) (.int .i64))) ([]),.arr (.int .i64) o15,.arr (.int .i64) o16,.arr (.st (.pair (.int .i64) (.int .i64))) o17,.arr (.st (.pair (.int .i64) .str)) o18,.arr (.int .i64) o19,.arr (.int .i64) o20,.arr (.st (.pair (.int .i64) (.int .i64))) o21,.arr (.st (.pair (.int .i64) .str)) o22],blk := 49152 }
def decPq11_n0v1 (s : St) : Option {x : Iq11_n0v1 × Vq11_n0v1 // s = Sq11_n0v1 x.1 x.2} := match s with
  | { env := [(3,.ifc 27 (.ptr 2 0)),(28,.own 13),(29,.int .i64 t29),(30,.int .i64 t30)],stk := [[(0,.ptr 0 0),(1,.ptr 1 0),(2,.ptr 2 0)]],H := [.cells [.ifc 27 (.ptr 1 0),.ifc 27 (.ptr 2 0),.int .i64 o0_2,.own 13,.own 14],.cells [.own 15,.own 16,.own 17,.own 18,.int .i64 o1_4,.int .i64 o1_5],.cells [.own 19,.own 20,.own 21,.own 22,.int .i64 o2_4,.int .i64 o2_5],.dead,.dead,.dead,.dead,.dead,.dead,.dead,.dead,.dead,.dead,.arr (.st (.pair (.int .i64) .str)) o13,.arr (.st (.pair (.int .i64) (.int .i64))) r8,.arr (.int .i64) o15,.arr (.int .i64) o16,.arr (.st (.pair (.int .i64) (.int .i64))) o17,.arr (.st (.pair (.int .i64) .str)) o18,.arr (.int .i64) o19,.arr (.int .i64) o20,.arr (.st (.pair (.int .i64) (.int .i64))) o21,.arr (.st (.pair (.int .i64) .str)) o22],blk := 49152 } => if h8 : r8 = [] then some ⟨((t29,o0_2,o1_4,o1_5,o13,o15,o16,o17,o18,o19,o20,o21),(t30,o2_4,o2_5,o22)),by subst h8; rfl⟩ else none
  | _ => none
def decq11_n0v1 (s : St) : Option (Iq11_n0v1 × Vq11_n0v1) := pk (decPq11_n0v1 s)
theorem decq11_n0v1_ok (s : St) (x : Iq11_n0v1 × Vq11_n0v1) (h : decq11_n0v1 s = some x) : s = Sq11_n0v1 x.1 x.2 := pk_ok (o := decPq11_n0v1 s) h
def outq11_n0v1 : Iq11_n0v1 → (Ex → St → Ans) → Yq11_n0v1 → Ans := fun (t29,o0_2,o1_4,o1_5,o13,o15,o16,o17,o18,o19,o20,o21) K => (Sum.elim (unP fun t2_y => unP fun o2_4_y => unP fun o2_5_y o22_y => K (Ex.ret) { env := [(2,.int .i64 t2_y)],stk := [[(0,.ptr 0 0),(1,.ptr 1 0),(2,.ptr 2 0)]],H := [.cells [.ifc 27 (.ptr 1 0),.ifc 27 (.ptr 2 0),.int .i64 o0_2,.own 13,.own 14],.cells [.own 15,.own 16,.own 17,.own 18,.int .i64 o1_4,.int .i64 o1_5],.cells [.own 19,.own 20,.own 21,.own 22,.int .i64 o2_4_y,.int .i64 o2_5_y],.dead,.dead,.dead,.dead,.dead,.dead,.dead,.dead,.dead,.dead,.arr (.st (.pair (.int .i64) .str)) o13,.arr (.st (.pair (.int .i64) (.int .i64))) ([]),.arr (.int .i64) o15,.arr (.int .i64) o16,.arr (.st (.pair (.int .i64) (.int .i64))) o17,.arr (.st (.pair (.int .i64) .str)) o18,.arr (.int .i64) o19,.arr (.int .i64) o20,.arr (.st (.pair (.int .i64) (.int .i64))) o21,.arr (.st (.pair (.int .i64) .str)) o22_y],blk := 49153 }) (unP fun o2_4_y => unP fun o2_5_y o22_y => K (Ex.exit 0) { env := [],stk := [[(0,.ptr 0 0),(1,.ptr 1 0),(2,.ptr 2 0)]],H := [.cells [.ifc 27 (.ptr 1 0),.ifc 27 (.ptr 2 0),.int .i64 o0_2,.own 13,.own 14],.cells [.own 15,.own 16,.own 17,.own 18,.int .i64 o1_4,.int .i64 o1_5],.cells [.own 19,.own 20,.own 21,.own 22,.int .i64 o2_4_y,.int .i64 o2_5_y],.dead,.dead,.dead,.dead,.dead,.dead,.dead,.dead,.dead,.dead,.arr (.st (.pair (.int .i64) .str)) o13,.arr (.st (.pair (.int .i64) (.int .i64))) ([]),.arr (.int .i64) o15,.arr (.int .i64) o16,.arr (.st (.pair (.int .i64) (.int .i64))) o17,.arr (.st (.pair (.int .i64) .str)) o18,.arr (.int .i64) o19,.arr (.int .i64) o20,.arr (.st (.pair (.int .i64) (.int .i64))) o21,.arr (.st (.pair (.int .i64) .str)) o22_y],blk := 49152 }))
def stepq11_n0v1 {β : Type} : Iq11_n0v1 → Vq11_n0v1 → (Vq11_n0v1 → Option β) → (Yq11_n0v1 → Option β) → Option β := fun (t29,o0_2,o1_4,o1_5,o13,o15,o16,o17,o18,o19,o20,o21) (t30,o2_4,o2_5,o22) next exit => (bif decide (t30 < t29) then (bif inR t30 (List.length o13) then (bindO (o13[Int.toNat t30]?) fun x => (bindO (fnDq40 (x.fst,x.snd,o2_4,o2_5,o19,o20,o21,o22)) (Sum.elim (unP fun r_0_0 => unP fun r_0_1 => unP fun r_1 => unP fun o0_4 => unP fun o0_5 o5 => (bif r_1 != (0 : Int) then (exit (Sum.inl (r_1,o0_4,o0_5,o5))) else (next (IntKind.wrap .i64 (t30 + (1 : Int)),o0_4,o0_5,o5)))) (unP fun r_0_0 => unP fun r_0_1 => unP fun r_1 => unP fun o0_4 o0_5 => (bif r_1 != (0 : Int) then (exit (Sum.inl (r_1,o0_4,o0_5,o22))) else (next (IntKind.wrap .i64 (t30 + (1 : Int)),o0_4,o0_5,o22))))))) else none) else (exit (Sum.inr (o2_4,o2_5,o22))))
def stepDq11_n0v1 (i : Iq11_n0v1) (v : Vq11_n0v1) : Option (Vq11_n0v1 ⊕ Yq11_n0v1) := stepq11_n0v1 i v (fun v => some (.inl v)) (fun y => some (.inr y))
theorem stepq11_n0v1_nat (i : Iq11_n0v1) (v : Vq11_n0v1) (next : Vq11_n0v1 → Ans) (exit : Yq11_n0v1 → Ans) : stepq11_n0v1 i v next exit = bindO (stepDq11_n0v1 i v) (Sum.elim next exit) := by
  obtain ⟨t29,o0_2,o1_4,o1_5,o13,o15,o16,o17,o18,o19,o20,o21⟩ := i
  obtain ⟨t30,o2_4,o2_5,o22⟩ := v
  simp only [stepDq11_n0v1,stepq11_n0v1,bindO_cond,bindO_assoc,bindO_none,bindO_pure,bindO_elim,bindO_unP,bindO_empty,Sum.elim_inl,Sum.elim_inr]
theorem stepq11_n0v1_ok (n : Nat) (i : Iq11_n0v1) (v : Vq11_n0v1) (K : Ex → St → Ans) : codeI Try.tab envq11 noHint (codeD Try.tab envq11 noHint 0 64) (n+1) 47 annLq11_n0 (.loop Lq11_n0) (weakP 100013 (exk [] [2] [(0,[])]) K) (Sq11_n0v1 i v) = stepq11_n0v1 i v (fun v' => codeI Try.tab envq11 noHint (codeD Try.tab envq11 noHint 0 64) n 47 annLq11_n0 (.loop Lq11_n0) (weakP 100013 (exk [] [2] [(0,[])]) K) (Sq11_n0v1 i v')) (fun y => outq11_n0v1 i K y) := by kernel_rfl
theorem GNq11_n0v1_ok : CSum Try.prog 47 (.loop Lq11_n0) (sumL decq11_n0v1 stepDq11_n0v1 outq11_n0v1) := csum_loop mixed tabOk envq11Ok 100013 (exk [] [2] [(0,[])]) annLq11_n0_ok decq11_n0v1_ok stepq11_n0v1_ok stepq11_n0v1_nat
noncomputable def Gq11_n0 : (Ex → St → Ans) → St → Ans := (altN decq11_n0 (sumL decq11_n0 stepDq11_n0 outq11_n0) (sumL decq11_n0v1 stepDq11_n0v1 outq11_n0v1))
theorem Gq11_n0_ok : CSum Try.prog 47 (.loop Lq11_n0) Gq11_n0 := (csum_altN GNq11_n0_ok GNq11_n0v1_ok)
noncomputable def annq11 : Ann := (.seq .none (.seq .none (.seq .none (.seq .none (.seq .none (.seq .none (.seq (.seq .none (.block (.cut 100013 [3,28,29,30] Gq11_n0))) .none)))))))
theorem annq11_ok : AnnOk Try.prog 47 bq11 annq11 := ⟨(annOk_none _ _ _),⟨(annOk_none _ _ _),⟨(annOk_none _ _ _),⟨(annOk_none _ _ _),⟨(annOk_none _ _ _),⟨(annOk_none _ _ _),⟨⟨(annOk_none _ _ _),Gq11_n0_ok⟩,(annOk_none _ _ _)⟩⟩⟩⟩⟩⟩⟩
abbrev Aq11 := (Int) × (Int) × (Int) × (Int) × (Int) × (List (Int × List UInt8)) × (List (Int × Int)) × (List Int) × (List Int) × (List (Int × Int)) × (List (Int × List UInt8)) × (List Int) × (List Int) × (List (Int × Int)) × (List (Int × List UInt8))
abbrev Yq11 := (Int) × (Int) × (Int) × (Int) × (Int) × (Int) × (List (Int × List UInt8)) × (List (Int × List UInt8))
def fnq11 {β : Type} : Aq11 → (Yq11 → Option β) → Option β := fun (o0_2,o1_4,o1_5,o2_4,o2_5,o3,o4,o5,o6,o7,o8,o9,o10,o11,o12) exit => (bindO (fnDq26 (IntKind.wrap .i64 ((1 : Int) - o0_2),o1_4,o1_5,o2_4,o2_5,o3,[],o5,o6,o7,o8,o9,o10,o11,o12)) (Sum.elim (fun _ => (bindO (loopD (stepDq11_n0 ((↑(List.length o3) : Int),IntKind.wrap .i64 ((1 : Int) - o0_2),o2_4,o2_5,o3,o5,o6,o7,o9,o10,o11,o12)) FUEL ((0 : Int),o1_4,o1_5,o8)) (Sum.elim (unP fun t2 => unP fun o1_4_2 => unP fun o1_5_2 o18 => (exit (t2,IntKind.wrap .i64 ((1 : Int) - o0_2),o1_4_2,o1_5_2,o2_4,o2_5,o18,o12))) (unP fun o1_4_2 => unP fun o1_5_2 o18 => (exit ((0 : Int),IntKind.wrap .i64 ((1 : Int) - o0_2),o1_4_2,o1_5_2,o2_4,o2_5,o18,o12)))))) (fun _ => (bindO (loopD (stepDq11_n0v1 ((↑(List.length o3) : Int),IntKind.wrap .i64 ((1 : Int) - o0_2),o1_4,o1_5,o3,o5,o6,o7,o8,o9,o10,o11)) FUEL ((0 : Int),o2_4,o2_5,o12)) (Sum.elim (unP fun t2 => unP fun o2_4_2 => unP fun o2_5_2 o22 => (exit (t2,IntKind.wrap .i64 ((1 : Int) - o0_2),o1_4,o1_5,o2_4_2,o2_5_2,o8,o22))) (unP fun o2_4_2 => unP fun o2_5_2 o22 => (exit ((0 : Int),IntKind.wrap .i64 ((1 : Int) - o0_2),o1_4,o1_5,o2_4_2,o2_5_2,o8,o22))))))))
def fnDq11 (a : Aq11) : Option Yq11 := fnq11 a some
theorem fnq11_nat (a : Aq11) (k : Yq11 → Ans) : fnq11 a k = bindO (fnDq11 a) k := by
  obtain ⟨o0_2,o1_4,o1_5,o2_4,o2_5,o3,o4,o5,o6,o7,o8,o9,o10,o11,o12⟩ := a
  simp only [fnDq11,fnq11,bindO_cond,bindO_assoc,bindO_none,bindO_pure,bindO_elim,bindO_unP,bindO_empty]
def argsq11 : Aq11 → List AV × List AE.Obj := fun (o0_2,o1_4,o1_5,o2_4,o2_5,o3,o4,o5,o6,o7,o8,o9,o10,o11,o12) => ([.ptr 0 0],[.cells [.ifc 27 (.ptr 1 0),.ifc 27 (.ptr 2 0),.int .i64 o0_2,.own 3,.own 4],.cells [.own 5,.own 6,.own 7,.own 8,.int .i64 o1_4,.int .i64 o1_5],.cells [.own 9,.own 10,.own 11,.own 12,.int .i64 o2_4,.int .i64 o2_5],.arr (.st (.pair (.int .i64) .str)) o3,.arr (.st (.pair (.int .i64) (.int .i64))) o4,.arr (.int .i64) o5,.arr (.int .i64) o6,.arr (.st (.pair (.int .i64) (.int .i64))) o7,.arr (.st (.pair (.int .i64) .str)) o8,.arr (.int .i64) o9,.arr (.int .i64) o10,.arr (.st (.pair (.int .i64) (.int .i64))) o11,.arr (.st (.pair (.int .i64) .str)) o12])
def decPAq11 (l : List AV) (H : List AE.Obj) : Option {a : Aq11 // (l,H) = argsq11 a} := match l,H with
  | [.ptr 0 0],[.cells [.ifc 27 (.ptr 1 0),.ifc 27 (.ptr 2 0),.int .i64 o0_2,.own 3,.own 4],.cells [.own 5,.own 6,.own 7,.own 8,.int .i64 o1_4,.int .i64 o1_5],.cells [.own 9,.own 10,.own 11,.own 12,.int .i64 o2_4,.int .i64 o2_5],.arr (.st (.pair (.int .i64) .str)) o3,.arr (.st (.pair (.int .i64) (.int .i64))) o4,.arr (.int .i64) o5,.arr (.int .i64) o6,.arr (.st (.pair (.int .i64) (.int .i64))) o7,.arr (.st (.pair (.int .i64) .str)) o8,.arr (.int .i64) o9,.arr (.int .i64) o10,.arr (.st (.pair (.int .i64) (.int .i64))) o11,.arr (.st (.pair (.int .i64) .str)) o12] => some ⟨(o0_2,o1_4,o1_5,o2_4,o2_5,o3,o4,o5,o6,o7,o8,o9,o10,o11,o12),rfl⟩
  | _,_ => none
def decAq11 (l : List AV) (H : List AE.Obj) : Option Aq11 := pk (decPAq11 l H)
theorem decAq11_ok (l : List AV) (H : List AE.Obj) (a : Aq11) (h : decAq11 l H = some a) : (l,H) = argsq11 a := pk_ok (o := decPAq11 l H) h
def outq11 : Aq11 → (AV → List AE.Obj → Ans) → Yq11 → Ans := fun (o0_2,o1_4,o1_5,o2_4,o2_5,o3,o4,o5,o6,o7,o8,o9,o10,o11,o12) K => unP fun r_y => unP fun o0_2_y => unP fun o1_4_y => unP fun o1_5_y => unP fun o2_4_y => unP fun o2_5_y => unP fun o18_y o22_y => K (.int .i64 r_y) [.cells [.ifc 27 (.ptr 1 0),.ifc 27 (.ptr 2 0),.int .i64 o0_2_y,.own 13,.own 14],.cells [.own 15,.own 16,.own 17,.own 18,.int .i64 o1_4_y,.int .i64 o1_5_y],.cells [.own 19,.own 20,.own 21,.own 22,.int .i64 o2_4_y,.int .i64 o2_5_y],.dead,.dead,.dead,.dead,.dead,.dead,.dead,.dead,.dead,.dead,.arr (.st (.pair (.int .i64) .str)) o3,.arr (.st (.pair (.int .i64) (.int .i64))) ([]),.arr (.int .i64) o5,.arr (.int .i64) o6,.arr (.st (.pair (.int .i64) (.int .i64))) o7,.arr (.st (.pair (.int .i64) .str)) o18_y,.arr (.int .i64) o9,.arr (.int .i64) o10,.arr (.st (.pair (.int .i64) (.int .i64))) o11,.arr (.st (.pair (.int .i64) .str)) o22_y]
theorem fnq11_ok (a : Aq11) (K : AV → List AE.Obj → Ans) : fnE Try.tab envq11 noHint 0 70 12 Try.f12.ntmps Try.f12.results.toList annq11 bq11 (argsq11 a).1 (argsq11 a).2 K = fnq11 a (outq11 a K) := by kernel_rfl
def vFq11 (a : Aq11) (K : AV → List AE.Obj → Ans) : Ans := bindO (fnDq11 a) fun y => outq11 a K y
def Fq11 : List AV → List AE.Obj → (AV → List AE.Obj → Ans) → Ans := fun l H K => bindO (decAq11 l H) fun a => vFq11 a K
theorem Fq11_ok : FuncOk Try.prog 12 Fq11 := func_mkD (hint := noHint) (d := 0) (n := 70) mixed tabOk envq11Ok Try.func12 (bodySome (by kernel_rfl)) (by decide +kernel) annq11_ok decAq11_ok fnq11_ok fnq11_nat
--@ law44_Tape_Read
noncomputable def envq39 : Env := []
theorem envq39Ok : EnvOk Try.prog envq39 := EnvOk.nil
noncomputable def bq39 : Code := Try.f41.body.getD .skip
noncomputable def Lq39_n0 : Code := codeAt [1,0,1,0,0] bq39
noncomputable def annLq39_n0 : Ann := .at 5 [0,1,6] (.loop .none)
theorem annLq39_n0_ok : AnnOk Try.prog 35 (.loop Lq39_n0) annLq39_n0 := annOk_at (annOk_none _ _ _)
abbrev Iq39_n0 := (Int) × (Int) × (Int) × (List Int) × (List Int) × (List (Int × Int)) × (List (Int × List UInt8))
abbrev Yq39_n0 := ((List UInt8)) ⊕ (Unit)
abbrev Vq39_n0 := (Int)
def Sq39_n0 : Iq39_n0 → Vq39_n0 → St := fun (t1,o0_4,o0_5,o1,o2,o3,o4) t6 => { env := [(0,.ptr 0 0),(1,.int .i64 t1),(6,.int .i64 t6)],stk := [[(0,.ptr 0 0)]],H := [.cells [.own 1,.own 2,.own 3,.own 4,.int .i64 o0_4,.int .i64 o0_5],.arr (.int .i64) o1,.arr (.int .i64) o2,.arr (.st (.pair (.int .i64) (.int .i64))) o3,.arr (.st (.pair (.int .i64) .str)) o4],blk := 167936 }
def decPq39_n0 (s : St) : Option {x : Iq39_n0 × Vq39_n0 // s = Sq39_n0 x.1 x.2} := match s with
  | { env := [(0,.ptr 0 0),(1,.int .i64 t1),(6,.int .i64 t6)],stk := [[(0,.ptr 0 0)]],H := [.cells [.own 1,.own 2,.own 3,.own 4,.int .i64 o0_4,.int .i64 o0_5],.arr (.int .i64) o1,.arr (.int .i64) o2,.arr (.st (.pair (.int .i64) (.int .i64))) o3,.arr (.st (.pair (.int .i64) .str)) o4],blk := 167936 } => some ⟨((t1,o0_4,o0_5,o1,o2,o3,o4),t6),rfl⟩
  | _ => none
def decq39_n0 (s : St) : Option (Iq39_n0 × Vq39_n0) := pk (decPq39_n0 s)
theorem decq39_n0_ok (s : St) (x : Iq39_n0 × Vq39_n0) (h : decq39_n0 s = some x) : s = Sq39_n0 x.1 x.2 := pk_ok (o := decPq39_n0 s) h
def outq39_n0 : Iq39_n0 → (Ex → St → Ans) → Yq39_n0 → Ans := fun (t1,o0_4,o0_5,o1,o2,o3,o4) K => (Sum.elim (fun t4_y => K (Ex.ret) { env := [(4,.str t4_y),(5,.int .i64 (0))],stk := [[(0,.ptr 0 0)]],H := [.cells [.own 1,.own 2,.own 3,.own 4,.int .i64 o0_4,.int .i64 o0_5],.arr (.int .i64) o1,.arr (.int .i64) o2,.arr (.st (.pair (.int .i64) (.int .i64))) o3,.arr (.st (.pair (.int .i64) .str)) o4],blk := 167937 }) (fun _ => K (Ex.exit 0) { env := [],stk := [[(0,.ptr 0 0)]],H := [.cells [.own 1,.own 2,.own 3,.own 4,.int .i64 o0_4,.int .i64 o0_5],.arr (.int .i64) o1,.arr (.int .i64) o2,.arr (.st (.pair (.int .i64) (.int .i64))) o3,.arr (.st (.pair (.int .i64) .str)) o4],blk := 167936 }))
def stepq39_n0 {β : Type} : Iq39_n0 → Vq39_n0 → (Vq39_n0 → Option β) → (Yq39_n0 → Option β) → Option β := fun (t1,o0_4,o0_5,o1,o2,o3,o4) t6 next exit => (bif decide (t6 ≥ (0 : Int)) then (bif inR t6 (List.length o4) then (bindO (o4[Int.toNat t6]?) fun x => (bif x.fst == t1 then (bif inR t6 (List.length o4) then (bindO (o4[Int.toNat t6]?) fun x_2 => (exit (Sum.inl (x_2.snd)))) else none) else (next (IntKind.wrap .i64 (t6 - (1 : Int)))))) else none) else (exit (Sum.inr ())))
def stepDq39_n0 (i : Iq39_n0) (v : Vq39_n0) : Option (Vq39_n0 ⊕ Yq39_n0) := stepq39_n0 i v (fun v => some (.inl v)) (fun y => some (.inr y))
theorem stepq39_n0_nat (i : Iq39_n0) (v : Vq39_n0) (next : Vq39_n0 → Ans) (exit : Yq39_n0 → Ans) : stepq39_n0 i v next exit = bindO (stepDq39_n0 i v) (Sum.elim next exit) := by
  obtain ⟨t1,o0_4,o0_5,o1,o2,o3,o4⟩ := i
  obtain z := v
  simp only [stepDq39_n0,stepq39_n0,bindO_cond,bindO_assoc,bindO_none,bindO_pure,bindO_elim,bindO_unP,bindO_empty,Sum.elim_inl,Sum.elim_inr]
theorem stepq39_n0_ok (n : Nat) (i : Iq39_n0) (v : Vq39_n0) (K : Ex → St → Ans) : codeI Try.tab envq39 noHint (codeD Try.tab envq39 noHint 0 64) (n+1) 35 annLq39_n0 (.loop Lq39_n0) (weakP 5 (exk [] [4,5] [(0,[])]) K) (Sq39_n0 i v) = stepq39_n0 i v (fun v' => codeI Try.tab envq39 noHint (codeD Try.tab envq39 noHint 0 64) n 35 annLq39_n0 (.loop Lq39_n0) (weakP 5 (exk [] [4,5] [(0,[])]) K) (Sq39_n0 i v')) (fun y => outq39_n0 i K y) := by kernel_rfl
theorem GNq39_n0_ok : CSum Try.prog 35 (.loop Lq39_n0) (sumL decq39_n0 stepDq39_n0 outq39_n0) := csum_loop mixed tabOk envq39Ok 5 (exk [] [4,5] [(0,[])]) annLq39_n0_ok decq39_n0_ok stepq39_n0_ok stepq39_n0_nat
noncomputable def Gq39_n0 : (Ex → St → Ans) → St → Ans := (sumL decq39_n0 stepDq39_n0 outq39_n0)
theorem Gq39_n0_ok : CSum Try.prog 35 (.loop Lq39_n0) Gq39_n0 := GNq39_n0_ok
noncomputable def annq39 : Ann := (.seq .none (.seq (.seq .none (.block (.cut 5 [0,1,6] Gq39_n0))) .none))
theorem annq39_ok : AnnOk Try.prog 35 bq39 annq39 := ⟨(annOk_none _ _ _),⟨⟨(annOk_none _ _ _),Gq39_n0_ok⟩,(annOk_none _ _ _)⟩⟩
abbrev Aq39 := (Int) × (Int) × (Int) × (List Int) × (List Int) × (List (Int × Int)) × (List (Int × List UInt8))
abbrev Yq39 := (List UInt8) × (Int)
def fnq39 {β : Type} : Aq39 → (Yq39 → Option β) → Option β := fun (a1,o0_4,o0_5,o1,o2,o3,o4) exit => (bindO (loopD (stepDq39_n0 (a1,o0_4,o0_5,o1,o2,o3,o4)) FUEL (IntKind.wrap .i64 ((↑(List.length o4) : Int) - (1 : Int)))) (Sum.elim (fun t4 => (exit (t4,(0 : Int)))) (fun _ => (exit ([],(3 : Int))))))
def fnDq39 (a : Aq39) : Option Yq39 := fnq39 a some
theorem fnq39_nat (a : Aq39) (k : Yq39 → Ans) : fnq39 a k = bindO (fnDq39 a) k := by
  obtain ⟨a1,o0_4,o0_5,o1,o2,o3,o4⟩ := a
  simp only [fnDq39,fnq39,bindO_cond,bindO_assoc,bindO_none,bindO_pure,bindO_elim,bindO_unP,bindO_empty]
def argsq39 : Aq39 → List AV × List AE.Obj := fun (a1,o0_4,o0_5,o1,o2,o3,o4) => ([.ptr 0 0,.int .i64 a1],[.cells [.own 1,.own 2,.own 3,.own 4,.int .i64 o0_4,.int .i64 o0_5],.arr (.int .i64) o1,.arr (.int .i64) o2,.arr (.st (.pair (.int .i64) (.int .i64))) o3,.arr (.st (.pair (.int .i64) .str)) o4])
def decPAq39 (l : List AV) (H : List AE.Obj) : Option {a : Aq39 // (l,H) = argsq39 a} := match l,H with
  | [.ptr 0 0,.int .i64 a1],[.cells [.own 1,.own 2,.own 3,.own 4,.int .i64 o0_4,.int .i64 o0_5],.arr (.int .i64) o1,.arr (.int .i64) o2,.arr (.st (.pair (.int .i64) (.int .i64))) o3,.arr (.st (.pair (.int .i64) .str)) o4] => some ⟨(a1,o0_4,o0_5,o1,o2,o3,o4),rfl⟩
  | _,_ => none
def decAq39 (l : List AV) (H : List AE.Obj) : Option Aq39 := pk (decPAq39 l H)
theorem decAq39_ok (l : List AV) (H : List AE.Obj) (a : Aq39) (h : decAq39 l H = some a) : (l,H) = argsq39 a := pk_ok (o := decPAq39 l H) h
def outq39 : Aq39 → (AV → List AE.Obj → Ans) → Yq39 → Ans := fun (a1,o0_4,o0_5,o1,o2,o3,o4) K => unP fun r_0_y r_1_y => K (.tup [.str r_0_y,.int .i64 r_1_y]) [.cells [.own 1,.own 2,.own 3,.own 4,.int .i64 o0_4,.int .i64 o0_5],.arr (.int .i64) o1,.arr (.int .i64) o2,.arr (.st (.pair (.int .i64) (.int .i64))) o3,.arr (.st (.pair (.int .i64) .str)) o4]
theorem fnq39_ok (a : Aq39) (K : AV → List AE.Obj → Ans) : fnE Try.tab envq39 noHint 0 70 41 Try.f41.ntmps Try.f41.results.toList annq39 bq39 (argsq39 a).1 (argsq39 a).2 K = fnq39 a (outq39 a K) := by kernel_rfl
def vFq39 (a : Aq39) (K : AV → List AE.Obj → Ans) : Ans := bindO (fnDq39 a) fun y => outq39 a K y
def Fq39 : List AV → List AE.Obj → (AV → List AE.Obj → Ans) → Ans := fun l H K => bindO (decAq39 l H) fun a => vFq39 a K
theorem Fq39_ok : FuncOk Try.prog 41 Fq39 := func_mkD (hint := noHint) (d := 0) (n := 70) mixed tabOk envq39Ok Try.func41 (bodySome (by kernel_rfl)) (by decide +kernel) annq39_ok decAq39_ok fnq39_ok fnq39_nat
--@ client_Client_Read
noncomputable def envq17 : Env := [(21,.func Fq26),(41,.func Fq39)]
theorem envq17Ok : EnvOk Try.prog envq17 := EnvOk.cons Fq26_ok (EnvOk.cons Fq39_ok (EnvOk.nil))
noncomputable def bq17 : Code := Try.f20.body.getD .skip
noncomputable def annq17 : Ann := .none
theorem annq17_ok : AnnOk Try.prog 16 bq17 annq17 := (annOk_none _ _ _)
abbrev Aq17 := (Int) × (Int) × (Int) × (Int) × (Int) × (Int) × (List (Int × List UInt8)) × (List (Int × Int)) × (List Int) × (List Int) × (List (Int × Int)) × (List (Int × List UInt8)) × (List Int) × (List Int) × (List (Int × Int)) × (List (Int × List UInt8))
abbrev Yq17 := (List UInt8) × (Int)
def fnq17 {β : Type} : Aq17 → (Yq17 → Option β) → Option β := fun (a1,o0_2,o1_4,o1_5,o2_4,o2_5,o3,o4,o5,o6,o7,o8,o9,o10,o11,o12) exit => (bindO (fnDq26 (o0_2,o1_4,o1_5,o2_4,o2_5,o3,o4,o5,o6,o7,o8,o9,o10,o11,o12)) (Sum.elim (fun _ => (bindO (fnDq39 (a1,o1_4,o1_5,o5,o6,o7,o8)) (unP fun r_0 r_1 => (exit (r_0,r_1))))) (fun _ => (bindO (fnDq39 (a1,o2_4,o2_5,o9,o10,o11,o12)) (unP fun r_0 r_1 => (exit (r_0,r_1)))))))
def fnDq17 (a : Aq17) : Option Yq17 := fnq17 a some
theorem fnq17_nat (a : Aq17) (k : Yq17 → Ans) : fnq17 a k = bindO (fnDq17 a) k := by
  obtain ⟨a1,o0_2,o1_4,o1_5,o2_4,o2_5,o3,o4,o5,o6,o7,o8,o9,o10,o11,o12⟩ := a
  simp only [fnDq17,fnq17,bindO_cond,bindO_assoc,bindO_none,bindO_pure,bindO_elim,bindO_unP,bindO_empty]
def argsq17 : Aq17 → List AV × List AE.Obj := fun (a1,o0_2,o1_4,o1_5,o2_4,o2_5,o3,o4,o5,o6,o7,o8,o9,o10,o11,o12) => ([.ptr 0 0,.int .i64 a1],[.cells [.ifc 27 (.ptr 1 0),.ifc 27 (.ptr 2 0),.int .i64 o0_2,.own 3,.own 4],.cells [.own 5,.own 6,.own 7,.own 8,.int .i64 o1_4,.int .i64 o1_5],.cells [.own 9,.own 10,.own 11,.own 12,.int .i64 o2_4,.int .i64 o2_5],.arr (.st (.pair (.int .i64) .str)) o3,.arr (.st (.pair (.int .i64) (.int .i64))) o4,.arr (.int .i64) o5,.arr (.int .i64) o6,.arr (.st (.pair (.int .i64) (.int .i64))) o7,.arr (.st (.pair (.int .i64) .str)) o8,.arr (.int .i64) o9,.arr (.int .i64) o10,.arr (.st (.pair (.int .i64) (.int .i64))) o11,.arr (.st (.pair (.int .i64) .str)) o12])
def decPAq17 (l : List AV) (H : List AE.Obj) : Option {a : Aq17 // (l,H) = argsq17 a} := match l,H with
  | [.ptr 0 0,.int .i64 a1],[.cells [.ifc 27 (.ptr 1 0),.ifc 27 (.ptr 2 0),.int .i64 o0_2,.own 3,.own 4],.cells [.own 5,.own 6,.own 7,.own 8,.int .i64 o1_4,.int .i64 o1_5],.cells [.own 9,.own 10,.own 11,.own 12,.int .i64 o2_4,.int .i64 o2_5],.arr (.st (.pair (.int .i64) .str)) o3,.arr (.st (.pair (.int .i64) (.int .i64))) o4,.arr (.int .i64) o5,.arr (.int .i64) o6,.arr (.st (.pair (.int .i64) (.int .i64))) o7,.arr (.st (.pair (.int .i64) .str)) o8,.arr (.int .i64) o9,.arr (.int .i64) o10,.arr (.st (.pair (.int .i64) (.int .i64))) o11,.arr (.st (.pair (.int .i64) .str)) o12] => some ⟨(a1,o0_2,o1_4,o1_5,o2_4,o2_5,o3,o4,o5,o6,o7,o8,o9,o10,o11,o12),rfl⟩
  | _,_ => none
def decAq17 (l : List AV) (H : List AE.Obj) : Option Aq17 := pk (decPAq17 l H)
theorem decAq17_ok (l : List AV) (H : List AE.Obj) (a : Aq17) (h : decAq17 l H = some a) : (l,H) = argsq17 a := pk_ok (o := decPAq17 l H) h
def outq17 : Aq17 → (AV → List AE.Obj → Ans) → Yq17 → Ans := fun (a1,o0_2,o1_4,o1_5,o2_4,o2_5,o3,o4,o5,o6,o7,o8,o9,o10,o11,o12) K => unP fun r_0_y r_1_y => K (.tup [.str r_0_y,.int .i64 r_1_y]) [.cells [.ifc 27 (.ptr 1 0),.ifc 27 (.ptr 2 0),.int .i64 o0_2,.own 3,.own 4],.cells [.own 5,.own 6,.own 7,.own 8,.int .i64 o1_4,.int .i64 o1_5],.cells [.own 9,.own 10,.own 11,.own 12,.int .i64 o2_4,.int .i64 o2_5],.arr (.st (.pair (.int .i64) .str)) o3,.arr (.st (.pair (.int .i64) (.int .i64))) o4,.arr (.int .i64) o5,.arr (.int .i64) o6,.arr (.st (.pair (.int .i64) (.int .i64))) o7,.arr (.st (.pair (.int .i64) .str)) o8,.arr (.int .i64) o9,.arr (.int .i64) o10,.arr (.st (.pair (.int .i64) (.int .i64))) o11,.arr (.st (.pair (.int .i64) .str)) o12]
theorem fnq17_ok (a : Aq17) (K : AV → List AE.Obj → Ans) : fnE Try.tab envq17 noHint 0 70 20 Try.f20.ntmps Try.f20.results.toList annq17 bq17 (argsq17 a).1 (argsq17 a).2 K = fnq17 a (outq17 a K) := by kernel_rfl
def vFq17 (a : Aq17) (K : AV → List AE.Obj → Ans) : Ans := bindO (fnDq17 a) fun y => outq17 a K y
def Fq17 : List AV → List AE.Obj → (AV → List AE.Obj → Ans) → Ans := fun l H K => bindO (decAq17 l H) fun a => vFq17 a K
theorem Fq17_ok : FuncOk Try.prog 20 Fq17 := func_mkD (hint := noHint) (d := 0) (n := 70) mixed tabOk envq17Ok Try.func20 (bodySome (by kernel_rfl)) (by decide +kernel) annq17_ok decAq17_ok fnq17_ok fnq17_nat
--@ client_Client_At
noncomputable def envq0 : Env := []
theorem envq0Ok : EnvOk Try.prog envq0 := EnvOk.nil
noncomputable def bq0 : Code := Try.f13.body.getD .skip
noncomputable def annq0 : Ann := .none
theorem annq0_ok : AnnOk Try.prog 9 bq0 annq0 := (annOk_none _ _ _)
abbrev Aq0 := (Int) × (Int) × (Int) × (Int) × (Int) × (List (Int × List UInt8)) × (List (Int × Int)) × (List Int) × (List Int) × (List (Int × Int)) × (List (Int × List UInt8)) × (List Int) × (List Int) × (List (Int × Int)) × (List (Int × List UInt8))
abbrev Yq0 := Unit
def fnq0 {β : Type} : Aq0 → (Yq0 → Option β) → Option β := fun (o0_2,o1_4,o1_5,o2_4,o2_5,o3,o4,o5,o6,o7,o8,o9,o10,o11,o12) exit => (exit ())
def fnDq0 (a : Aq0) : Option Yq0 := fnq0 a some
theorem fnq0_nat (a : Aq0) (k : Yq0 → Ans) : fnq0 a k = bindO (fnDq0 a) k := by
  obtain ⟨o0_2,o1_4,o1_5,o2_4,o2_5,o3,o4,o5,o6,o7,o8,o9,o10,o11,o12⟩ := a
  simp only [fnDq0,fnq0,bindO_cond,bindO_assoc,bindO_none,bindO_pure,bindO_elim,bindO_unP,bindO_empty]
def argsq0 : Aq0 → List AV × List AE.Obj := fun (o0_2,o1_4,o1_5,o2_4,o2_5,o3,o4,o5,o6,o7,o8,o9,o10,o11,o12) => ([.ptr 0 0],[.cells [.ifc 27 (.ptr 1 0),.ifc 27 (.ptr 2 0),.int .i64 o0_2,.own 3,.own 4],.cells [.own 5,.own 6,.own 7,.own 8,.int .i64 o1_4,.int .i64 o1_5],.cells [.own 9,.own 10,.own 11,.own 12,.int .i64 o2_4,.int .i64 o2_5],.arr (.st (.pair (.int .i64) .str)) o3,.arr (.st (.pair (.int .i64) (.int .i64))) o4,.arr (.int .i64) o5,.arr (.int .i64) o6,.arr (.st (.pair (.int .i64) (.int .i64))) o7,.arr (.st (.pair (.int .i64) .str)) o8,.arr (.int .i64) o9,.arr (.int .i64) o10,.arr (.st (.pair (.int .i64) (.int .i64))) o11,.arr (.st (.pair (.int .i64) .str)) o12])
def decPAq0 (l : List AV) (H : List AE.Obj) : Option {a : Aq0 // (l,H) = argsq0 a} := match l,H with
  | [.ptr 0 0],[.cells [.ifc 27 (.ptr 1 0),.ifc 27 (.ptr 2 0),.int .i64 o0_2,.own 3,.own 4],.cells [.own 5,.own 6,.own 7,.own 8,.int .i64 o1_4,.int .i64 o1_5],.cells [.own 9,.own 10,.own 11,.own 12,.int .i64 o2_4,.int .i64 o2_5],.arr (.st (.pair (.int .i64) .str)) o3,.arr (.st (.pair (.int .i64) (.int .i64))) o4,.arr (.int .i64) o5,.arr (.int .i64) o6,.arr (.st (.pair (.int .i64) (.int .i64))) o7,.arr (.st (.pair (.int .i64) .str)) o8,.arr (.int .i64) o9,.arr (.int .i64) o10,.arr (.st (.pair (.int .i64) (.int .i64))) o11,.arr (.st (.pair (.int .i64) .str)) o12] => some ⟨(o0_2,o1_4,o1_5,o2_4,o2_5,o3,o4,o5,o6,o7,o8,o9,o10,o11,o12),rfl⟩
  | _,_ => none
def decAq0 (l : List AV) (H : List AE.Obj) : Option Aq0 := pk (decPAq0 l H)
theorem decAq0_ok (l : List AV) (H : List AE.Obj) (a : Aq0) (h : decAq0 l H = some a) : (l,H) = argsq0 a := pk_ok (o := decPAq0 l H) h
def outq0 : Aq0 → (AV → List AE.Obj → Ans) → Yq0 → Ans := fun (o0_2,o1_4,o1_5,o2_4,o2_5,o3,o4,o5,o6,o7,o8,o9,o10,o11,o12) K => fun _ => K (.int .i64 o0_2) [.cells [.ifc 27 (.ptr 1 0),.ifc 27 (.ptr 2 0),.int .i64 o0_2,.own 3,.own 4],.cells [.own 5,.own 6,.own 7,.own 8,.int .i64 o1_4,.int .i64 o1_5],.cells [.own 9,.own 10,.own 11,.own 12,.int .i64 o2_4,.int .i64 o2_5],.arr (.st (.pair (.int .i64) .str)) o3,.arr (.st (.pair (.int .i64) (.int .i64))) o4,.arr (.int .i64) o5,.arr (.int .i64) o6,.arr (.st (.pair (.int .i64) (.int .i64))) o7,.arr (.st (.pair (.int .i64) .str)) o8,.arr (.int .i64) o9,.arr (.int .i64) o10,.arr (.st (.pair (.int .i64) (.int .i64))) o11,.arr (.st (.pair (.int .i64) .str)) o12]
theorem fnq0_ok (a : Aq0) (K : AV → List AE.Obj → Ans) : fnE Try.tab envq0 noHint 0 70 13 Try.f13.ntmps Try.f13.results.toList annq0 bq0 (argsq0 a).1 (argsq0 a).2 K = fnq0 a (outq0 a K) := by kernel_rfl
def vFq0 (a : Aq0) (K : AV → List AE.Obj → Ans) : Ans := bindO (fnDq0 a) fun y => outq0 a K y
def Fq0 : List AV → List AE.Obj → (AV → List AE.Obj → Ans) → Ans := fun l H K => bindO (decAq0 l H) fun a => vFq0 a K
theorem Fq0_ok : FuncOk Try.prog 13 Fq0 := func_mkD (hint := noHint) (d := 0) (n := 70) mixed tabOk envq0Ok Try.func13 (bodySome (by kernel_rfl)) (by decide +kernel) annq0_ok decAq0_ok fnq0_ok fnq0_nat
--@ client_Client_Kept
noncomputable def envq7 : Env := []
theorem envq7Ok : EnvOk Try.prog envq7 := EnvOk.nil
noncomputable def bq7 : Code := Try.f11.body.getD .skip
noncomputable def annq7 : Ann := .none
theorem annq7_ok : AnnOk Try.prog 19 bq7 annq7 := (annOk_none _ _ _)
abbrev Aq7 := (Int) × (Int) × (Int) × (Int) × (Int) × (List (Int × List UInt8)) × (List (Int × Int)) × (List Int) × (List Int) × (List (Int × Int)) × (List (Int × List UInt8)) × (List Int) × (List Int) × (List (Int × Int)) × (List (Int × List UInt8))
abbrev Yq7 := (List (Int × List UInt8))
def fnq7 {β : Type} : Aq7 → (Yq7 → Option β) → Option β := fun (o0_2,o1_4,o1_5,o2_4,o2_5,o3,o4,o5,o6,o7,o8,o9,o10,o11,o12) exit => (bif decide ((0 : Int) ≤ (↑(List.length o3) : Int)) && decide ((↑(List.length o3) : Int) ≤ (↑(List.length o3) : Int)) && decide ((24 : Int) * (↑(List.length o3) : Int) ≤ (281474976710656 : Int)) && decide ((↑(List.length o3) : Int) ≤ (9223372036854775807 : Int)) then (exit (List.take (List.length (List.replicate (Int.toNat (↑(List.length o3) : Int)) ((0 : Int),nilL UInt8))) o3 ++ List.drop (List.length o3) (List.replicate (Int.toNat (↑(List.length o3) : Int)) ((0 : Int),nilL UInt8)))) else none)
def fnDq7 (a : Aq7) : Option Yq7 := fnq7 a some
theorem fnq7_nat (a : Aq7) (k : Yq7 → Ans) : fnq7 a k = bindO (fnDq7 a) k := by
  obtain ⟨o0_2,o1_4,o1_5,o2_4,o2_5,o3,o4,o5,o6,o7,o8,o9,o10,o11,o12⟩ := a
  simp only [fnDq7,fnq7,bindO_cond,bindO_assoc,bindO_none,bindO_pure,bindO_elim,bindO_unP,bindO_empty]
def argsq7 : Aq7 → List AV × List AE.Obj := fun (o0_2,o1_4,o1_5,o2_4,o2_5,o3,o4,o5,o6,o7,o8,o9,o10,o11,o12) => ([.ptr 0 0],[.cells [.ifc 27 (.ptr 1 0),.ifc 27 (.ptr 2 0),.int .i64 o0_2,.own 3,.own 4],.cells [.own 5,.own 6,.own 7,.own 8,.int .i64 o1_4,.int .i64 o1_5],.cells [.own 9,.own 10,.own 11,.own 12,.int .i64 o2_4,.int .i64 o2_5],.arr (.st (.pair (.int .i64) .str)) o3,.arr (.st (.pair (.int .i64) (.int .i64))) o4,.arr (.int .i64) o5,.arr (.int .i64) o6,.arr (.st (.pair (.int .i64) (.int .i64))) o7,.arr (.st (.pair (.int .i64) .str)) o8,.arr (.int .i64) o9,.arr (.int .i64) o10,.arr (.st (.pair (.int .i64) (.int .i64))) o11,.arr (.st (.pair (.int .i64) .str)) o12])
def decPAq7 (l : List AV) (H : List AE.Obj) : Option {a : Aq7 // (l,H) = argsq7 a} := match l,H with
  | [.ptr 0 0],[.cells [.ifc 27 (.ptr 1 0),.ifc 27 (.ptr 2 0),.int .i64 o0_2,.own 3,.own 4],.cells [.own 5,.own 6,.own 7,.own 8,.int .i64 o1_4,.int .i64 o1_5],.cells [.own 9,.own 10,.own 11,.own 12,.int .i64 o2_4,.int .i64 o2_5],.arr (.st (.pair (.int .i64) .str)) o3,.arr (.st (.pair (.int .i64) (.int .i64))) o4,.arr (.int .i64) o5,.arr (.int .i64) o6,.arr (.st (.pair (.int .i64) (.int .i64))) o7,.arr (.st (.pair (.int .i64) .str)) o8,.arr (.int .i64) o9,.arr (.int .i64) o10,.arr (.st (.pair (.int .i64) (.int .i64))) o11,.arr (.st (.pair (.int .i64) .str)) o12] => some ⟨(o0_2,o1_4,o1_5,o2_4,o2_5,o3,o4,o5,o6,o7,o8,o9,o10,o11,o12),rfl⟩
  | _,_ => none
def decAq7 (l : List AV) (H : List AE.Obj) : Option Aq7 := pk (decPAq7 l H)
theorem decAq7_ok (l : List AV) (H : List AE.Obj) (a : Aq7) (h : decAq7 l H = some a) : (l,H) = argsq7 a := pk_ok (o := decPAq7 l H) h
def outq7 : Aq7 → (AV → List AE.Obj → Ans) → Yq7 → Ans := fun (o0_2,o1_4,o1_5,o2_4,o2_5,o3,o4,o5,o6,o7,o8,o9,o10,o11,o12) K => fun o13_y => K (.own 13) [.cells [.ifc 27 (.ptr 1 0),.ifc 27 (.ptr 2 0),.int .i64 o0_2,.own 3,.own 4],.cells [.own 5,.own 6,.own 7,.own 8,.int .i64 o1_4,.int .i64 o1_5],.cells [.own 9,.own 10,.own 11,.own 12,.int .i64 o2_4,.int .i64 o2_5],.arr (.st (.pair (.int .i64) .str)) o3,.arr (.st (.pair (.int .i64) (.int .i64))) o4,.arr (.int .i64) o5,.arr (.int .i64) o6,.arr (.st (.pair (.int .i64) (.int .i64))) o7,.arr (.st (.pair (.int .i64) .str)) o8,.arr (.int .i64) o9,.arr (.int .i64) o10,.arr (.st (.pair (.int .i64) (.int .i64))) o11,.arr (.st (.pair (.int .i64) .str)) o12,.arr (.st (.pair (.int .i64) .str)) o13_y]
theorem fnq7_ok (a : Aq7) (K : AV → List AE.Obj → Ans) : fnE Try.tab envq7 noHint 0 70 11 Try.f11.ntmps Try.f11.results.toList annq7 bq7 (argsq7 a).1 (argsq7 a).2 K = fnq7 a (outq7 a K) := by kernel_rfl
def vFq7 (a : Aq7) (K : AV → List AE.Obj → Ans) : Ans := bindO (fnDq7 a) fun y => outq7 a K y
def Fq7 : List AV → List AE.Obj → (AV → List AE.Obj → Ans) → Ans := fun l H K => bindO (decAq7 l H) fun a => vFq7 a K
theorem Fq7_ok : FuncOk Try.prog 11 Fq7 := func_mkD (hint := noHint) (d := 0) (n := 70) mixed tabOk envq7Ok Try.func11 (bodySome (by kernel_rfl)) (by decide +kernel) annq7_ok decAq7_ok fnq7_ok fnq7_nat
--@ law44_works
noncomputable def envq47 : Env := [(8,.func Fq30),(9,.func Fq20),(10,.func Fq3),(12,.func Fq11),(20,.func Fq17),(13,.func Fq0),(11,.func Fq7)]
theorem envq47Ok : EnvOk Try.prog envq47 := EnvOk.cons Fq30_ok (EnvOk.cons Fq20_ok (EnvOk.cons Fq3_ok (EnvOk.cons Fq11_ok (EnvOk.cons Fq17_ok (EnvOk.cons Fq0_ok (EnvOk.cons Fq7_ok (EnvOk.nil)))))))
noncomputable def bq47 : Code := Try.f6.body.getD .skip
noncomputable def Lq47_n0 : Code := codeAt [1,1,1,1,1,1,1,0] bq47
noncomputable def annLq47_n0 : Ann := .none
theorem annLq47_n0_ok : AnnOk Try.prog 75 Lq47_n0 annLq47_n0 := (annOk_none _ _ _)
abbrev Iq47_n0 := (Int) × (Bool) × (Int) × (Int) × (List UInt8) × (Int) × (Int) × (Int) × (Int) × (List (Int × List UInt8)) × (Int) × (Int) × (List (Int × List UInt8)) × (List (Int × List UInt8))
abbrev Yq47_n0 := (Bool)
def Sq47_n0 : Iq47_n0 → St := fun (t4,t5,t6,t7,t8,t9,o0_4,o0_5,o1_2,o5,o6_4,o6_5,o7,o12) => { env := [(2,.ptr 0 0),(3,.ptr 1 0),(4,.int .i64 t4),(5,.bool t5),(6,.int .i64 t6),(7,.int .i64 t7),(8,.str t8),(9,.int .i64 t9)],stk := [[]],H := [.cells [.own 2,.own 3,.own 4,.own 5,.int .i64 o0_4,.int .i64 o0_5],.cells [.ifc 27 (.ptr 6 0),.ifc 27 (.ptr 0 0),.int .i64 o1_2,.own 7,.own 8],.arr (.int .i64) ([]),.arr (.int .i64) ([]),.arr (.st (.pair (.int .i64) (.int .i64))) ([]),.arr (.st (.pair (.int .i64) .str)) o5,.cells [.own 9,.own 10,.own 11,.own 12,.int .i64 o6_4,.int .i64 o6_5],.arr (.st (.pair (.int .i64) .str)) o7,.arr (.st (.pair (.int .i64) (.int .i64))) ([]),.arr (.int .i64) ([]),.arr (.int .i64) ([0,1]),.arr (.st (.pair (.int .i64) (.int .i64))) ([]),.arr (.st (.pair (.int .i64) .str)) o12],blk := 24576 }
def decPq47_n0 (s : St) : Option {x : Iq47_n0 // s = Sq47_n0 x} := match s with
  | { env := [(2,.ptr 0 0),(3,.ptr 1 0),(4,.int .i64 t4),(5,.bool t5),(6,.int .i64 t6),(7,.int .i64 t7),(8,.str t8),(9,.int .i64 t9)],stk := [[]],H := [.cells [.own 2,.own 3,.own 4,.own 5,.int .i64 o0_4,.int .i64 o0_5],.cells [.ifc 27 (.ptr 6 0),.ifc 27 (.ptr 0 0),.int .i64 o1_2,.own 7,.own 8],.arr (.int .i64) r9,.arr (.int .i64) r10,.arr (.st (.pair (.int .i64) (.int .i64))) r11,.arr (.st (.pair (.int .i64) .str)) o5,.cells [.own 9,.own 10,.own 11,.own 12,.int .i64 o6_4,.int .i64 o6_5],.arr (.st (.pair (.int .i64) .str)) o7,.arr (.st (.pair (.int .i64) (.int .i64))) r16,.arr (.int .i64) r17,.arr (.int .i64) r18,.arr (.st (.pair (.int .i64) (.int .i64))) r19,.arr (.st (.pair (.int .i64) .str)) o12],blk := 24576 } => if h9 : r9 = [] then if h10 : r10 = [] then if h11 : r11 = [] then if h16 : r16 = [] then if h17 : r17 = [] then if h18 : r18 = [0,1] then if h19 : r19 = [] then some ⟨(t4,t5,t6,t7,t8,t9,o0_4,o0_5,o1_2,o5,o6_4,o6_5,o7,o12),by subst h9 h10 h11 h16 h17 h18 h19; rfl⟩ else none else none else none else none else none else none else none
  | _ => none
def decq47_n0 (s : St) : Option Iq47_n0 := pk (decPq47_n0 s)
theorem decq47_n0_ok (s : St) (x : Iq47_n0) (h : decq47_n0 s = some x) : s = Sq47_n0 x := pk_ok (o := decPq47_n0 s) h
def outq47_n0 : Iq47_n0 → (Ex → St → Ans) → Yq47_n0 → Ans := fun (t4,t5,t6,t7,t8,t9,o0_4,o0_5,o1_2,o5,o6_4,o6_5,o7,o12) K => fun t0_y => K (Ex.norm) { env := [(0,.bool t0_y)],stk := [[]],H := [],blk := 24576 }
def nodeq47_n0 {β : Type} : Iq47_n0 → (Yq47_n0 → Option β) → Option β := fun (t4,t5,t6,t7,t8,t9,o0_4,o0_5,o1_2,o5,o6_4,o6_5,o7,o12) exit => (bif t4 == (0 : Int) then (bif !t5 then (bif t6 == (0 : Int) then (bif t7 == (0 : Int) then (bif t8 == [(120 : UInt8)] then (bif t9 == (0 : Int) then (bindO (fnDq0 (o1_2,o6_4,o6_5,o0_4,o0_5,o7,[],[],[(0 : Int),(1 : Int)],[],o12,[],[],[],o5)) fun _ => (bif o1_2 == (1 : Int) then (bindO (fnDq7 (o1_2,o6_4,o6_5,o0_4,o0_5,o7,[],[],[(0 : Int),(1 : Int)],[],o12,[],[],[],o5)) fun o13 => (bif (↑(List.length o13) : Int) == (1 : Int) then (exit ((↑(List.length o5) : Int) == (1 : Int))) else (exit (false)))) else (exit (false)))) else (exit (false))) else (exit (false))) else (exit (false))) else (exit (false))) else (exit (false))) else (exit (false)))
def nodeDq47_n0 (i : Iq47_n0) : Option Yq47_n0 := nodeq47_n0 i some
theorem nodeq47_n0_nat (i : Iq47_n0) (k : Yq47_n0 → Ans) : nodeq47_n0 i k = bindO (nodeDq47_n0 i) k := by
  obtain ⟨t4,t5,t6,t7,t8,t9,o0_4,o0_5,o1_2,o5,o6_4,o6_5,o7,o12⟩ := i
  simp only [nodeDq47_n0,nodeq47_n0,bindO_cond,bindO_assoc,bindO_none,bindO_pure,bindO_elim,bindO_unP,bindO_empty]
theorem nodeq47_n0_ok (i : Iq47_n0) (K : Ex → St → Ans) : codeI Try.tab envq47 noHint (codeD Try.tab envq47 noHint 0 64) 70 75 annLq47_n0 Lq47_n0 (weakP 0 (exk [0] [0] []) K) (Sq47_n0 i) = nodeq47_n0 i (outq47_n0 i K) := by kernel_rfl
theorem GNq47_n0_ok : CSum Try.prog 75 Lq47_n0 (sumN decq47_n0 nodeDq47_n0 outq47_n0) := csum_node mixed tabOk envq47Ok 0 (exk [0] [0] []) annLq47_n0_ok decq47_n0_ok nodeq47_n0_ok nodeq47_n0_nat
noncomputable def Gq47_n0 : (Ex → St → Ans) → St → Ans := (sumN decq47_n0 nodeDq47_n0 outq47_n0)
theorem Gq47_n0_ok : CSum Try.prog 75 Lq47_n0 Gq47_n0 := GNq47_n0_ok
noncomputable def annq47 : Ann := (.seq .none (.seq .none (.seq .none (.seq .none (.seq .none (.seq .none (.seq .none (.seq (.cut 0 [2,3,4,5,6,7,8,9] Gq47_n0) .none))))))))
theorem annq47_ok : AnnOk Try.prog 75 bq47 annq47 := ⟨(annOk_none _ _ _),⟨(annOk_none _ _ _),⟨(annOk_none _ _ _),⟨(annOk_none _ _ _),⟨(annOk_none _ _ _),⟨(annOk_none _ _ _),⟨(annOk_none _ _ _),⟨Gq47_n0_ok,(annOk_none _ _ _)⟩⟩⟩⟩⟩⟩⟩⟩
abbrev Aq47 := Unit
abbrev Yq47 := (Bool)
def fnq47 {β : Type} : Aq47 → (Yq47 → Option β) → Option β := fun _ exit => (bindO (fnDq30 ((0 : Int),(0 : Int),(0 : Int),(0 : Int),[],[(0 : Int),(1 : Int)],[],[],[],[],[],[])) fun _ => (bindO (fnDq20 ((3 : Int),[(120 : UInt8)],(0 : Int),(0 : Int),(0 : Int),(0 : Int),(0 : Int),[],[],[],[(0 : Int),(1 : Int)],[],[],[],[],[],[])) (Sum.elim (unP fun r => unP fun o1_4 => unP fun o1_5 => unP fun o2_4 => unP fun o2_5 o3 => (bindO (fnDq3 ((0 : Int),o1_4,o1_5,o2_4,o2_5,o3,[],[],[(0 : Int),(1 : Int)],[],[],[],[],[],[])) (Sum.elim (unP fun r_1 => unP fun o1_4_2 => unP fun o1_5_2 => unP fun o2_4_2 => unP fun o2_5_2 o4 => (bindO (fnDq11 ((0 : Int),o1_4_2,o1_5_2,o2_4_2,o2_5_2,o3,o4,[],[(0 : Int),(1 : Int)],[],[],[],[],[],[])) (unP fun r_2 => unP fun o0_2 => unP fun o1_4_3 => unP fun o1_5_3 => unP fun o2_4_3 => unP fun o2_5_3 => unP fun o18 o22 => (bindO (fnDq17 ((3 : Int),o0_2,o1_4_3,o1_5_3,o2_4_3,o2_5_3,o3,[],[],[(0 : Int),(1 : Int)],[],o18,[],[],[],o22)) (unP fun r_0 r_1_2 => (bindO (nodeDq47_n0 (r,false,r_1,r_2,r_0,r_1_2,o2_4_3,o2_5_3,o0_2,o22,o1_4_3,o1_5_3,o3,o18)) fun t0 => (exit (t0)))))))) (unP fun o1_4_2 => unP fun o1_5_2 => unP fun o2_4_2 => unP fun o2_5_2 => unP fun o4 o13 => (bindO (fnDq11 ((0 : Int),o1_4_2,o1_5_2,o2_4_2,o2_5_2,o13,[],[],[(0 : Int),(1 : Int)],[],[],[],[],[],[])) (unP fun r_2 => unP fun o0_2 => unP fun o1_4_3 => unP fun o1_5_3 => unP fun o2_4_3 => unP fun o2_5_3 => unP fun o18 o22 => (bindO (fnDq17 ((3 : Int),o0_2,o1_4_3,o1_5_3,o2_4_3,o2_5_3,o13,[],[],[(0 : Int),(1 : Int)],[],o18,[],[],[],o22)) (unP fun r_0 r_1 => (bindO (nodeDq47_n0 (r,true,(0 : Int),r_2,r_0,r_1,o2_4_3,o2_5_3,o0_2,o22,o1_4_3,o1_5_3,o13,o18)) fun t0 => (exit (t0))))))))))) ((Sum.elim (unP fun r => unP fun o1_4 => unP fun o1_5 => unP fun o3 o13 => (bindO (fnDq3 ((0 : Int),o1_4,o1_5,(0 : Int),(0 : Int),o3,[],[],[(0 : Int),(1 : Int)],[],o13,[],[],[],[])) (Sum.elim (unP fun r_1 => unP fun o1_4_2 => unP fun o1_5_2 => unP fun o2_4 => unP fun o2_5 o4 => (bindO (fnDq11 ((0 : Int),o1_4_2,o1_5_2,o2_4,o2_5,o3,o4,[],[(0 : Int),(1 : Int)],[],o13,[],[],[],[])) (unP fun r_2 => unP fun o0_2 => unP fun o1_4_3 => unP fun o1_5_3 => unP fun o2_4_2 => unP fun o2_5_2 => unP fun o18 o22 => (bindO (fnDq17 ((3 : Int),o0_2,o1_4_3,o1_5_3,o2_4_2,o2_5_2,o3,[],[],[(0 : Int),(1 : Int)],[],o18,[],[],[],o22)) (unP fun r_0 r_1_2 => (bindO (nodeDq47_n0 (r,false,r_1,r_2,r_0,r_1_2,o2_4_2,o2_5_2,o0_2,o22,o1_4_3,o1_5_3,o3,o18)) fun t0 => (exit (t0)))))))) (unP fun o1_4_2 => unP fun o1_5_2 => unP fun o2_4 => unP fun o2_5 => unP fun o4 o13_2 => (bindO (fnDq11 ((0 : Int),o1_4_2,o1_5_2,o2_4,o2_5,o13_2,[],[],[(0 : Int),(1 : Int)],[],o13,[],[],[],[])) (unP fun r_2 => unP fun o0_2 => unP fun o1_4_3 => unP fun o1_5_3 => unP fun o2_4_2 => unP fun o2_5_2 => unP fun o18 o22 => (bindO (fnDq17 ((3 : Int),o0_2,o1_4_3,o1_5_3,o2_4_2,o2_5_2,o13_2,[],[],[(0 : Int),(1 : Int)],[],o18,[],[],[],o22)) (unP fun r_0 r_1 => (bindO (nodeDq47_n0 (r,true,(0 : Int),r_2,r_0,r_1,o2_4_2,o2_5_2,o0_2,o22,o1_4_3,o1_5_3,o13_2,o18)) fun t0 => (exit (t0))))))))))) (unP fun r => unP fun o2_4 => unP fun o2_5 => unP fun o3 o13 => (bindO (fnDq3 ((0 : Int),(0 : Int),(0 : Int),o2_4,o2_5,o3,[],[],[(0 : Int),(1 : Int)],[],[],[],[],[],o13)) (Sum.elim (unP fun r_1 => unP fun o1_4 => unP fun o1_5 => unP fun o2_4_2 => unP fun o2_5_2 o4 => (bindO (fnDq11 ((0 : Int),o1_4,o1_5,o2_4_2,o2_5_2,o3,o4,[],[(0 : Int),(1 : Int)],[],[],[],[],[],o13)) (unP fun r_2 => unP fun o0_2 => unP fun o1_4_2 => unP fun o1_5_2 => unP fun o2_4_3 => unP fun o2_5_3 => unP fun o18 o22 => (bindO (fnDq17 ((3 : Int),o0_2,o1_4_2,o1_5_2,o2_4_3,o2_5_3,o3,[],[],[(0 : Int),(1 : Int)],[],o18,[],[],[],o22)) (unP fun r_0 r_1_2 => (bindO (nodeDq47_n0 (r,false,r_1,r_2,r_0,r_1_2,o2_4_3,o2_5_3,o0_2,o22,o1_4_2,o1_5_2,o3,o18)) fun t0 => (exit (t0)))))))) (unP fun o1_4 => unP fun o1_5 => unP fun o2_4_2 => unP fun o2_5_2 => unP fun o4 o13_2 => (bindO (fnDq11 ((0 : Int),o1_4,o1_5,o2_4_2,o2_5_2,o13_2,[],[],[(0 : Int),(1 : Int)],[],[],[],[],[],o13)) (unP fun r_2 => unP fun o0_2 => unP fun o1_4_2 => unP fun o1_5_2 => unP fun o2_4_3 => unP fun o2_5_3 => unP fun o18 o22 => (bindO (fnDq17 ((3 : Int),o0_2,o1_4_2,o1_5_2,o2_4_3,o2_5_3,o13_2,[],[],[(0 : Int),(1 : Int)],[],o18,[],[],[],o22)) (unP fun r_0 r_1 => (bindO (nodeDq47_n0 (r,true,(0 : Int),r_2,r_0,r_1,o2_4_3,o2_5_3,o0_2,o22,o1_4_2,o1_5_2,o13_2,o18)) fun t0 => (exit (t0))))))))))))))))
def fnDq47 (a : Aq47) : Option Yq47 := fnq47 a some
theorem fnq47_nat (a : Aq47) (k : Yq47 → Ans) : fnq47 a k = bindO (fnDq47 a) k := by
  obtain z := a
  simp only [fnDq47,fnq47,bindO_cond,bindO_assoc,bindO_none,bindO_pure,bindO_elim,bindO_unP,bindO_empty]
def argsq47 : Aq47 → List AV := fun _ => []
def decPAq47 (l : List AV) : Option {a : Aq47 // l = argsq47 a} := match l with
  | [] => some ⟨(),rfl⟩
  | _ => none
def decAq47 (l : List AV) : Option Aq47 := pk (decPAq47 l)
theorem decAq47_ok (l : List AV) (a : Aq47) (h : decAq47 l = some a) : l = argsq47 a := pk_ok (o := decPAq47 l) h
def rendq47 : Aq47 → Yq47 → AV := fun _ => fun r_y => .bool r_y
theorem rendq47_ok : ∀ (a : Aq47) (y : Yq47),(rendq47 a y).closed1 = true := by
  rintro z y <;> first | rfl | exact Empty.elim y
theorem fnq47_ok (a : Aq47) : fnE Try.tab envq47 noHint 0 70 6 Try.f6.ntmps Try.f6.results.toList annq47 bq47 (argsq47 a) [] (fun v _ => some (v,[])) = fnq47 a (fun y => some (rendq47 a y,[])) := by kernel_rfl
def vFq47 (a : Aq47) (K : AV → Ans) : Ans := bindO (fnDq47 a) fun y => K (rendq47 a y)
def Fq47 : List AV → (AV → Ans) → Ans := fun l K => bindO (decAq47 l) fun a => vFq47 a K
theorem Fq47_ok : PureOk Try.prog 6 Fq47 := pure_mkD (hint := noHint) (d := 0) (n := 70) mixed tabOk envq47Ok Try.func6 (bodySome (by kernel_rfl)) (by decide +kernel) annq47_ok decAq47_ok fnq47_ok fnq47_nat rendq47_ok
end Go.Proofs.R8
namespace Go.Proofs.R8
open Go Go.AE
set_option maxRecDepth 100000
--@ law44_great
noncomputable def envq46 : Env := []
theorem envq46Ok : EnvOk Try.prog envq46 := EnvOk.nil
noncomputable def bq46 : Code := Try.f7.body.getD .skip
noncomputable def Lq46_n2 : Code := codeAt [1,0,1,0,0,1,0,0,0] bq46
noncomputable def annLq46_n2 : Ann := .none
theorem annLq46_n2_ok : AnnOk Try.prog 21 Lq46_n2 annLq46_n2 := (annOk_none _ _ _)
abbrev Iq46_n2 := (List (Int × Int × List UInt8 × Int × Int × Int × (Int × Int × Int × List UInt8) × List Int)) × (Int)
abbrev Yq46_n2 := (Bool)
def Sq46_n2 : Iq46_n2 → St := fun (t0,t3) => { env := [(0,.ro (.st (.pair (.int .i64) (.pair (.int .i64) (.pair .str (.pair (.int .i64) (.pair (.int .i64) (.pair (.int .i64) (.pair (.pair (.int .i64) (.pair (.int .i64) (.pair (.int .i64) .str))) (.list (.int .i64)))))))))) t0),(3,.int .i64 t3)],stk := [[]],H := [],blk := 28673 }
def decPq46_n2 (s : St) : Option {x : Iq46_n2 // s = Sq46_n2 x} := match s with
  | { env := [(0,.ro (.st (.pair (.int .i64) (.pair (.int .i64) (.pair .str (.pair (.int .i64) (.pair (.int .i64) (.pair (.int .i64) (.pair (.pair (.int .i64) (.pair (.int .i64) (.pair (.int .i64) .str))) (.list (.int .i64)))))))))) t0),(3,.int .i64 t3)],stk := [[]],H := [],blk := 28673 } => some ⟨(t0,t3),rfl⟩
  | _ => none
def decq46_n2 (s : St) : Option Iq46_n2 := pk (decPq46_n2 s)
theorem decq46_n2_ok (s : St) (x : Iq46_n2) (h : decq46_n2 s = some x) : s = Sq46_n2 x := pk_ok (o := decPq46_n2 s) h
def outq46_n2 : Iq46_n2 → (Ex → St → Ans) → Yq46_n2 → Ans := fun (t0,t3) K => fun t20_y => K (Ex.norm) { env := [(0,.ro (.st (.pair (.int .i64) (.pair (.int .i64) (.pair .str (.pair (.int .i64) (.pair (.int .i64) (.pair (.int .i64) (.pair (.pair (.int .i64) (.pair (.int .i64) (.pair (.int .i64) .str))) (.list (.int .i64)))))))))) t0),(3,.int .i64 t3),(20,.bool t20_y)],stk := [[]],H := [],blk := 28673 }
def nodeq46_n2 {β : Type} : Iq46_n2 → (Yq46_n2 → Option β) → Option β := fun (t0,t3) exit => (bif decide (t3 ≥ (90 : Int)) then (exit (true)) else (bindO (nth t0 t3) fun x => (exit (decide ((↑(List.length x.snd.snd.fst) : Int) > (1000 : Int))))))
def nodeDq46_n2 (i : Iq46_n2) : Option Yq46_n2 := nodeq46_n2 i some
theorem nodeq46_n2_nat (i : Iq46_n2) (k : Yq46_n2 → Ans) : nodeq46_n2 i k = bindO (nodeDq46_n2 i) k := by
  obtain ⟨t0,t3⟩ := i
  simp only [nodeDq46_n2,nodeq46_n2,bindO_cond,bindO_assoc,bindO_none,bindO_pure,bindO_elim,bindO_unP,bindO_empty]
theorem nodeq46_n2_ok (i : Iq46_n2) (K : Ex → St → Ans) : codeI Try.tab envq46 noHint (codeD Try.tab envq46 noHint 0 64) 70 21 annLq46_n2 Lq46_n2 (weakP 0 (exk [0,3,20] [2] []) K) (Sq46_n2 i) = nodeq46_n2 i (outq46_n2 i K) := by kernel_rfl
theorem GNq46_n2_ok : CSum Try.prog 21 Lq46_n2 (sumN decq46_n2 nodeDq46_n2 outq46_n2) := csum_node mixed tabOk envq46Ok 0 (exk [0,3,20] [2] []) annLq46_n2_ok decq46_n2_ok nodeq46_n2_ok nodeq46_n2_nat
noncomputable def Gq46_n2 : (Ex → St → Ans) → St → Ans := (sumN decq46_n2 nodeDq46_n2 outq46_n2)
theorem Gq46_n2_ok : CSum Try.prog 21 Lq46_n2 Gq46_n2 := GNq46_n2_ok
noncomputable def Lq46_n1 : Code := codeAt [1,0,1,0,0,1,0] bq46
noncomputable def annLq46_n1 : Ann := (.block (.seq (.cut 0 [0,3] Gq46_n2) .none))
theorem annLq46_n1_ok : AnnOk Try.prog 21 Lq46_n1 annLq46_n1 := ⟨Gq46_n2_ok,(annOk_none _ _ _)⟩
abbrev Iq46_n1 := (List (Int × Int × List UInt8 × Int × Int × Int × (Int × Int × Int × List UInt8) × List Int)) × (Int)
abbrev Yq46_n1 := (Unit) ⊕ (Unit)
def Sq46_n1 : Iq46_n1 → St := fun (t0,t3) => { env := [(0,.ro (.st (.pair (.int .i64) (.pair (.int .i64) (.pair .str (.pair (.int .i64) (.pair (.int .i64) (.pair (.int .i64) (.pair (.pair (.int .i64) (.pair (.int .i64) (.pair (.int .i64) .str))) (.list (.int .i64)))))))))) t0),(3,.int .i64 t3)],stk := [[]],H := [],blk := 28672 }
def decPq46_n1 (s : St) : Option {x : Iq46_n1 // s = Sq46_n1 x} := match s with
  | { env := [(0,.ro (.st (.pair (.int .i64) (.pair (.int .i64) (.pair .str (.pair (.int .i64) (.pair (.int .i64) (.pair (.int .i64) (.pair (.pair (.int .i64) (.pair (.int .i64) (.pair (.int .i64) .str))) (.list (.int .i64)))))))))) t0),(3,.int .i64 t3)],stk := [[]],H := [],blk := 28672 } => some ⟨(t0,t3),rfl⟩
  | _ => none
def decq46_n1 (s : St) : Option Iq46_n1 := pk (decPq46_n1 s)
theorem decq46_n1_ok (s : St) (x : Iq46_n1) (h : decq46_n1 s = some x) : s = Sq46_n1 x := pk_ok (o := decPq46_n1 s) h
def outq46_n1 : Iq46_n1 → (Ex → St → Ans) → Yq46_n1 → Ans := fun (t0,t3) K => (Sum.elim (fun _ => K (Ex.ret) { env := [(2,.bool (true))],stk := [[]],H := [],blk := 28673 }) (fun _ => K (Ex.norm) { env := [(0,.ro (.st (.pair (.int .i64) (.pair (.int .i64) (.pair .str (.pair (.int .i64) (.pair (.int .i64) (.pair (.int .i64) (.pair (.pair (.int .i64) (.pair (.int .i64) (.pair (.int .i64) .str))) (.list (.int .i64)))))))))) t0),(3,.int .i64 t3)],stk := [[]],H := [],blk := 28673 }))
def nodeq46_n1 {β : Type} : Iq46_n1 → (Yq46_n1 → Option β) → Option β := fun (t0,t3) exit => (bindO (nodeDq46_n2 (t0,t3)) fun t20 => (bif t20 then (exit (Sum.inl ())) else (exit (Sum.inr ()))))
def nodeDq46_n1 (i : Iq46_n1) : Option Yq46_n1 := nodeq46_n1 i some
theorem nodeq46_n1_nat (i : Iq46_n1) (k : Yq46_n1 → Ans) : nodeq46_n1 i k = bindO (nodeDq46_n1 i) k := by
  obtain ⟨t0,t3⟩ := i
  simp only [nodeDq46_n1,nodeq46_n1,bindO_cond,bindO_assoc,bindO_none,bindO_pure,bindO_elim,bindO_unP,bindO_empty]
theorem nodeq46_n1_ok (i : Iq46_n1) (K : Ex → St → Ans) : codeI Try.tab envq46 noHint (codeD Try.tab envq46 noHint 0 64) 70 21 annLq46_n1 Lq46_n1 (weakP 0 (exk [0,3] [2] []) K) (Sq46_n1 i) = nodeq46_n1 i (outq46_n1 i K) := by kernel_rfl
theorem GNq46_n1_ok : CSum Try.prog 21 Lq46_n1 (sumN decq46_n1 nodeDq46_n1 outq46_n1) := csum_node mixed tabOk envq46Ok 0 (exk [0,3] [2] []) annLq46_n1_ok decq46_n1_ok nodeq46_n1_ok nodeq46_n1_nat
noncomputable def Gq46_n1 : (Ex → St → Ans) → St → Ans := (sumN decq46_n1 nodeDq46_n1 outq46_n1)
theorem Gq46_n1_ok : CSum Try.prog 21 Lq46_n1 Gq46_n1 := GNq46_n1_ok
noncomputable def Lq46_n0 : Code := codeAt [1,0,1,0,0] bq46
noncomputable def annLq46_n0 : Ann := .at 0 [0,3] (.loop (.seq .none (.seq (.cut 0 [0,3] Gq46_n1) .none)))
theorem annLq46_n0_ok : AnnOk Try.prog 21 (.loop Lq46_n0) annLq46_n0 := annOk_at ⟨(annOk_none _ _ _),⟨Gq46_n1_ok,(annOk_none _ _ _)⟩⟩
abbrev Iq46_n0 := (List (Int × Int × List UInt8 × Int × Int × Int × (Int × Int × Int × List UInt8) × List Int))
abbrev Yq46_n0 := (Unit) ⊕ (Unit)
abbrev Vq46_n0 := (Int)
def Sq46_n0 : Iq46_n0 → Vq46_n0 → St := fun t0 t3 => { env := [(0,.ro (.st (.pair (.int .i64) (.pair (.int .i64) (.pair .str (.pair (.int .i64) (.pair (.int .i64) (.pair (.int .i64) (.pair (.pair (.int .i64) (.pair (.int .i64) (.pair (.int .i64) .str))) (.list (.int .i64)))))))))) t0),(3,.int .i64 t3)],stk := [[]],H := [],blk := 28672 }
def decPq46_n0 (s : St) : Option {x : Iq46_n0 × Vq46_n0 // s = Sq46_n0 x.1 x.2} := match s with
  | { env := [(0,.ro (.st (.pair (.int .i64) (.pair (.int .i64) (.pair .str (.pair (.int .i64) (.pair (.int .i64) (.pair (.int .i64) (.pair (.pair (.int .i64) (.pair (.int .i64) (.pair (.int .i64) .str))) (.list (.int .i64)))))))))) t0),(3,.int .i64 t3)],stk := [[]],H := [],blk := 28672 } => some ⟨(t0,t3),rfl⟩
  | _ => none
def decq46_n0 (s : St) : Option (Iq46_n0 × Vq46_n0) := pk (decPq46_n0 s)
theorem decq46_n0_ok (s : St) (x : Iq46_n0 × Vq46_n0) (h : decq46_n0 s = some x) : s = Sq46_n0 x.1 x.2 := pk_ok (o := decPq46_n0 s) h
def outq46_n0 : Iq46_n0 → (Ex → St → Ans) → Yq46_n0 → Ans := fun t0 K => (Sum.elim (fun _ => K (Ex.ret) { env := [(2,.bool (true))],stk := [[]],H := [],blk := 28673 }) (fun _ => K (Ex.exit 0) { env := [],stk := [[]],H := [],blk := 28672 }))
def stepq46_n0 {β : Type} : Iq46_n0 → Vq46_n0 → (Vq46_n0 → Option β) → (Yq46_n0 → Option β) → Option β := fun t0 t3 next exit => (bif decide (t3 < (↑(List.length t0) : Int)) then (bindO (nodeDq46_n1 (t0,t3)) (Sum.elim (fun _ => (exit (Sum.inl ()))) (fun _ => (next (IntKind.wrap .i64 (t3 + (1 : Int))))))) else (exit (Sum.inr ())))
def stepDq46_n0 (i : Iq46_n0) (v : Vq46_n0) : Option (Vq46_n0 ⊕ Yq46_n0) := stepq46_n0 i v (fun v => some (.inl v)) (fun y => some (.inr y))
theorem stepq46_n0_nat (i : Iq46_n0) (v : Vq46_n0) (next : Vq46_n0 → Ans) (exit : Yq46_n0 → Ans) : stepq46_n0 i v next exit = bindO (stepDq46_n0 i v) (Sum.elim next exit) := by
  obtain z := i
  obtain z := v
  simp only [stepDq46_n0,stepq46_n0,bindO_cond,bindO_assoc,bindO_none,bindO_pure,bindO_elim,bindO_unP,bindO_empty,Sum.elim_inl,Sum.elim_inr]
theorem stepq46_n0_ok (n : Nat) (i : Iq46_n0) (v : Vq46_n0) (K : Ex → St → Ans) : codeI Try.tab envq46 noHint (codeD Try.tab envq46 noHint 0 64) (n+1) 21 annLq46_n0 (.loop Lq46_n0) (weakP 0 (exk [] [2] [(0,[])]) K) (Sq46_n0 i v) = stepq46_n0 i v (fun v' => codeI Try.tab envq46 noHint (codeD Try.tab envq46 noHint 0 64) n 21 annLq46_n0 (.loop Lq46_n0) (weakP 0 (exk [] [2] [(0,[])]) K) (Sq46_n0 i v')) (fun y => outq46_n0 i K y) := by kernel_rfl
theorem GNq46_n0_ok : CSum Try.prog 21 (.loop Lq46_n0) (sumL decq46_n0 stepDq46_n0 outq46_n0) := csum_loop mixed tabOk envq46Ok 0 (exk [] [2] [(0,[])]) annLq46_n0_ok decq46_n0_ok stepq46_n0_ok stepq46_n0_nat
noncomputable def Gq46_n0 : (Ex → St → Ans) → St → Ans := (sumL decq46_n0 stepDq46_n0 outq46_n0)
theorem Gq46_n0_ok : CSum Try.prog 21 (.loop Lq46_n0) Gq46_n0 := GNq46_n0_ok
noncomputable def annq46 : Ann := (.seq .none (.seq (.seq .none (.block (.cut 0 [0,3] Gq46_n0))) .none))
theorem annq46_ok : AnnOk Try.prog 21 bq46 annq46 := ⟨(annOk_none _ _ _),⟨⟨(annOk_none _ _ _),Gq46_n0_ok⟩,(annOk_none _ _ _)⟩⟩
abbrev Aq46 := (List (Int × Int × List UInt8 × Int × Int × Int × (Int × Int × Int × List UInt8) × List Int))
abbrev Yq46 := (Bool)
def fnq46 {β : Type} : Aq46 → (Yq46 → Option β) → Option β := fun a0 exit => (bindO (loopD (stepDq46_n0 (a0)) FUEL ((0 : Int))) (Sum.elim (fun _ => (exit (true))) (fun _ => (exit (false)))))
def fnDq46 (a : Aq46) : Option Yq46 := fnq46 a some
theorem fnq46_nat (a : Aq46) (k : Yq46 → Ans) : fnq46 a k = bindO (fnDq46 a) k := by
  obtain z := a
  simp only [fnDq46,fnq46,bindO_cond,bindO_assoc,bindO_none,bindO_pure,bindO_elim,bindO_unP,bindO_empty]
def argsq46 : Aq46 → List AV := fun a0 => [.ro (.st (.pair (.int .i64) (.pair (.int .i64) (.pair .str (.pair (.int .i64) (.pair (.int .i64) (.pair (.int .i64) (.pair (.pair (.int .i64) (.pair (.int .i64) (.pair (.int .i64) .str))) (.list (.int .i64)))))))))) a0]
def decPAq46 (l : List AV) : Option {a : Aq46 // l = argsq46 a} := match l with
  | [.ro (.st (.pair (.int .i64) (.pair (.int .i64) (.pair .str (.pair (.int .i64) (.pair (.int .i64) (.pair (.int .i64) (.pair (.pair (.int .i64) (.pair (.int .i64) (.pair (.int .i64) .str))) (.list (.int .i64)))))))))) a0] => some ⟨(a0),rfl⟩
  | _ => none
def decAq46 (l : List AV) : Option Aq46 := pk (decPAq46 l)
theorem decAq46_ok (l : List AV) (a : Aq46) (h : decAq46 l = some a) : l = argsq46 a := pk_ok (o := decPAq46 l) h
def rendq46 : Aq46 → Yq46 → AV := fun a0 => fun r_y => .bool r_y
theorem rendq46_ok : ∀ (a : Aq46) (y : Yq46),(rendq46 a y).closed1 = true := by
  rintro z y <;> first | rfl | exact Empty.elim y
theorem fnq46_ok (a : Aq46) : fnE Try.tab envq46 noHint 0 70 7 Try.f7.ntmps Try.f7.results.toList annq46 bq46 (argsq46 a) [] (fun v _ => some (v,[])) = fnq46 a (fun y => some (rendq46 a y,[])) := by kernel_rfl
def vFq46 (a : Aq46) (K : AV → Ans) : Ans := bindO (fnDq46 a) fun y => K (rendq46 a y)
def Fq46 : List AV → (AV → Ans) → Ans := fun l K => bindO (decAq46 l) fun a => vFq46 a K
theorem Fq46_ok : PureOk Try.prog 7 Fq46 := pure_mkD (hint := noHint) (d := 0) (n := 70) mixed tabOk envq46Ok Try.func7 (bodySome (by kernel_rfl)) (by decide +kernel) annq46_ok decAq46_ok fnq46_ok fnq46_nat rendq46_ok
--@ client_New_3
noncomputable def envq32 : Env := []
theorem envq32Ok : EnvOk Try.prog envq32 := EnvOk.nil
noncomputable def bq32 : Code := Try.f8.body.getD .skip
noncomputable def annq32 : Ann := .none
theorem annq32_ok : AnnOk Try.prog 10 bq32 annq32 := (annOk_none _ _ _)
abbrev Aq32 := (List Int) × (Int) × (Int) × (List Int) × (Int) × (Int) × (List Int) × (List (Int × Int)) × (List (Int × List UInt8)) × (List Int) × (List (Int × Int)) × (List (Int × List UInt8))
abbrev Yq32 := Unit
def fnq32 {β : Type} : Aq32 → (Yq32 → Option β) → Option β := fun (o0_1,o0_4,o0_5,o1_0,o1_4,o1_5,o2,o3,o4,o5,o6,o7) exit => (exit ())
def fnDq32 (a : Aq32) : Option Yq32 := fnq32 a some
theorem fnq32_nat (a : Aq32) (k : Yq32 → Ans) : fnq32 a k = bindO (fnDq32 a) k := by
  obtain ⟨o0_1,o0_4,o0_5,o1_0,o1_4,o1_5,o2,o3,o4,o5,o6,o7⟩ := a
  simp only [fnDq32,fnq32,bindO_cond,bindO_assoc,bindO_none,bindO_pure,bindO_elim,bindO_unP,bindO_empty]
def argsq32 : Aq32 → List AV × List AE.Obj := fun (o0_1,o0_4,o0_5,o1_0,o1_4,o1_5,o2,o3,o4,o5,o6,o7) => ([.ifc 27 (.ptr 0 0),.ifc 27 (.ptr 1 0)],[.cells [.own 2,.ro (.int .i64) o0_1,.own 3,.own 4,.int .i64 o0_4,.int .i64 o0_5],.cells [.ro (.int .i64) o1_0,.own 5,.own 6,.own 7,.int .i64 o1_4,.int .i64 o1_5],.arr (.int .i64) o2,.arr (.st (.pair (.int .i64) (.int .i64))) o3,.arr (.st (.pair (.int .i64) .str)) o4,.arr (.int .i64) o5,.arr (.st (.pair (.int .i64) (.int .i64))) o6,.arr (.st (.pair (.int .i64) .str)) o7])
def decPAq32 (l : List AV) (H : List AE.Obj) : Option {a : Aq32 // (l,H) = argsq32 a} := match l,H with
  | [.ifc 27 (.ptr 0 0),.ifc 27 (.ptr 1 0)],[.cells [.own 2,.ro (.int .i64) o0_1,.own 3,.own 4,.int .i64 o0_4,.int .i64 o0_5],.cells [.ro (.int .i64) o1_0,.own 5,.own 6,.own 7,.int .i64 o1_4,.int .i64 o1_5],.arr (.int .i64) o2,.arr (.st (.pair (.int .i64) (.int .i64))) o3,.arr (.st (.pair (.int .i64) .str)) o4,.arr (.int .i64) o5,.arr (.st (.pair (.int .i64) (.int .i64))) o6,.arr (.st (.pair (.int .i64) .str)) o7] => some ⟨(o0_1,o0_4,o0_5,o1_0,o1_4,o1_5,o2,o3,o4,o5,o6,o7),rfl⟩
  | _,_ => none
def decAq32 (l : List AV) (H : List AE.Obj) : Option Aq32 := pk (decPAq32 l H)
theorem decAq32_ok (l : List AV) (H : List AE.Obj) (a : Aq32) (h : decAq32 l H = some a) : (l,H) = argsq32 a := pk_ok (o := decPAq32 l H) h
def outq32 : Aq32 → (AV → List AE.Obj → Ans) → Yq32 → Ans := fun (o0_1,o0_4,o0_5,o1_0,o1_4,o1_5,o2,o3,o4,o5,o6,o7) K => fun _ => K (.ptr 8 0) [.cells [.own 2,.ro (.int .i64) o0_1,.own 3,.own 4,.int .i64 o0_4,.int .i64 o0_5],.cells [.ro (.int .i64) o1_0,.own 5,.own 6,.own 7,.int .i64 o1_4,.int .i64 o1_5],.arr (.int .i64) o2,.arr (.st (.pair (.int .i64) (.int .i64))) o3,.arr (.st (.pair (.int .i64) .str)) o4,.arr (.int .i64) o5,.arr (.st (.pair (.int .i64) (.int .i64))) o6,.arr (.st (.pair (.int .i64) .str)) o7,.cells [.ifc 27 (.ptr 0 0),.ifc 27 (.ptr 1 0),.int .i64 (0),.own 9,.own 10],.arr (.st (.pair (.int .i64) .str)) ([]),.arr (.st (.pair (.int .i64) (.int .i64))) ([])]
theorem fnq32_ok (a : Aq32) (K : AV → List AE.Obj → Ans) : fnE Try.tab envq32 noHint 0 70 8 Try.f8.ntmps Try.f8.results.toList annq32 bq32 (argsq32 a).1 (argsq32 a).2 K = fnq32 a (outq32 a K) := by kernel_rfl
def vFq32 (a : Aq32) (K : AV → List AE.Obj → Ans) : Ans := bindO (fnDq32 a) fun y => outq32 a K y
def Fq32 : List AV → List AE.Obj → (AV → List AE.Obj → Ans) → Ans := fun l H K => bindO (decAq32 l H) fun a => vFq32 a K
theorem Fq32_ok : FuncOk Try.prog 8 Fq32 := func_mkD (hint := noHint) (d := 0) (n := 70) mixed tabOk envq32Ok Try.func8 (bodySome (by kernel_rfl)) (by decide +kernel) annq32_ok decAq32_ok fnq32_ok fnq32_nat
--@ client_Client_server_4
noncomputable def envq29 : Env := []
theorem envq29Ok : EnvOk Try.prog envq29 := EnvOk.nil
noncomputable def bq29 : Code := Try.f21.body.getD .skip
noncomputable def annq29 : Ann := .none
theorem annq29_ok : AnnOk Try.prog 14 bq29 annq29 := (annOk_none _ _ _)
abbrev Aq29 := (Int) × (List Int) × (Int) × (Int) × (List Int) × (Int) × (Int) × (List (Int × List UInt8)) × (List (Int × Int)) × (List Int) × (List (Int × Int)) × (List (Int × List UInt8)) × (List Int) × (List (Int × Int)) × (List (Int × List UInt8))
abbrev Yq29 := (Unit) ⊕ (Unit)
def fnq29 {β : Type} : Aq29 → (Yq29 → Option β) → Option β := fun (o0_2,o1_1,o1_4,o1_5,o2_0,o2_4,o2_5,o3,o4,o5,o6,o7,o8,o9,o10) exit => (bif o0_2 == (0 : Int) then (exit (Sum.inl ())) else (bif o0_2 == (1 : Int) then (exit (Sum.inr ())) else none))
def fnDq29 (a : Aq29) : Option Yq29 := fnq29 a some
theorem fnq29_nat (a : Aq29) (k : Yq29 → Ans) : fnq29 a k = bindO (fnDq29 a) k := by
  obtain ⟨o0_2,o1_1,o1_4,o1_5,o2_0,o2_4,o2_5,o3,o4,o5,o6,o7,o8,o9,o10⟩ := a
  simp only [fnDq29,fnq29,bindO_cond,bindO_assoc,bindO_none,bindO_pure,bindO_elim,bindO_unP,bindO_empty]
def argsq29 : Aq29 → List AV × List AE.Obj := fun (o0_2,o1_1,o1_4,o1_5,o2_0,o2_4,o2_5,o3,o4,o5,o6,o7,o8,o9,o10) => ([.ptr 0 0],[.cells [.ifc 27 (.ptr 1 0),.ifc 27 (.ptr 2 0),.int .i64 o0_2,.own 3,.own 4],.cells [.own 5,.ro (.int .i64) o1_1,.own 6,.own 7,.int .i64 o1_4,.int .i64 o1_5],.cells [.ro (.int .i64) o2_0,.own 8,.own 9,.own 10,.int .i64 o2_4,.int .i64 o2_5],.arr (.st (.pair (.int .i64) .str)) o3,.arr (.st (.pair (.int .i64) (.int .i64))) o4,.arr (.int .i64) o5,.arr (.st (.pair (.int .i64) (.int .i64))) o6,.arr (.st (.pair (.int .i64) .str)) o7,.arr (.int .i64) o8,.arr (.st (.pair (.int .i64) (.int .i64))) o9,.arr (.st (.pair (.int .i64) .str)) o10])
def decPAq29 (l : List AV) (H : List AE.Obj) : Option {a : Aq29 // (l,H) = argsq29 a} := match l,H with
  | [.ptr 0 0],[.cells [.ifc 27 (.ptr 1 0),.ifc 27 (.ptr 2 0),.int .i64 o0_2,.own 3,.own 4],.cells [.own 5,.ro (.int .i64) o1_1,.own 6,.own 7,.int .i64 o1_4,.int .i64 o1_5],.cells [.ro (.int .i64) o2_0,.own 8,.own 9,.own 10,.int .i64 o2_4,.int .i64 o2_5],.arr (.st (.pair (.int .i64) .str)) o3,.arr (.st (.pair (.int .i64) (.int .i64))) o4,.arr (.int .i64) o5,.arr (.st (.pair (.int .i64) (.int .i64))) o6,.arr (.st (.pair (.int .i64) .str)) o7,.arr (.int .i64) o8,.arr (.st (.pair (.int .i64) (.int .i64))) o9,.arr (.st (.pair (.int .i64) .str)) o10] => some ⟨(o0_2,o1_1,o1_4,o1_5,o2_0,o2_4,o2_5,o3,o4,o5,o6,o7,o8,o9,o10),rfl⟩
  | _,_ => none
def decAq29 (l : List AV) (H : List AE.Obj) : Option Aq29 := pk (decPAq29 l H)
theorem decAq29_ok (l : List AV) (H : List AE.Obj) (a : Aq29) (h : decAq29 l H = some a) : (l,H) = argsq29 a := pk_ok (o := decPAq29 l H) h
def outq29 : Aq29 → (AV → List AE.Obj → Ans) → Yq29 → Ans := fun (o0_2,o1_1,o1_4,o1_5,o2_0,o2_4,o2_5,o3,o4,o5,o6,o7,o8,o9,o10) K => (Sum.elim (fun _ => K (.ifc 27 (.ptr 1 0)) [.cells [.ifc 27 (.ptr 1 0),.ifc 27 (.ptr 2 0),.int .i64 o0_2,.own 3,.own 4],.cells [.own 5,.ro (.int .i64) o1_1,.own 6,.own 7,.int .i64 o1_4,.int .i64 o1_5],.cells [.ro (.int .i64) o2_0,.own 8,.own 9,.own 10,.int .i64 o2_4,.int .i64 o2_5],.arr (.st (.pair (.int .i64) .str)) o3,.arr (.st (.pair (.int .i64) (.int .i64))) o4,.arr (.int .i64) o5,.arr (.st (.pair (.int .i64) (.int .i64))) o6,.arr (.st (.pair (.int .i64) .str)) o7,.arr (.int .i64) o8,.arr (.st (.pair (.int .i64) (.int .i64))) o9,.arr (.st (.pair (.int .i64) .str)) o10]) (fun _ => K (.ifc 27 (.ptr 2 0)) [.cells [.ifc 27 (.ptr 1 0),.ifc 27 (.ptr 2 0),.int .i64 o0_2,.own 3,.own 4],.cells [.own 5,.ro (.int .i64) o1_1,.own 6,.own 7,.int .i64 o1_4,.int .i64 o1_5],.cells [.ro (.int .i64) o2_0,.own 8,.own 9,.own 10,.int .i64 o2_4,.int .i64 o2_5],.arr (.st (.pair (.int .i64) .str)) o3,.arr (.st (.pair (.int .i64) (.int .i64))) o4,.arr (.int .i64) o5,.arr (.st (.pair (.int .i64) (.int .i64))) o6,.arr (.st (.pair (.int .i64) .str)) o7,.arr (.int .i64) o8,.arr (.st (.pair (.int .i64) (.int .i64))) o9,.arr (.st (.pair (.int .i64) .str)) o10]))
theorem fnq29_ok (a : Aq29) (K : AV → List AE.Obj → Ans) : fnE Try.tab envq29 noHint 0 70 21 Try.f21.ntmps Try.f21.results.toList annq29 bq29 (argsq29 a).1 (argsq29 a).2 K = fnq29 a (outq29 a K) := by kernel_rfl
def vFq29 (a : Aq29) (K : AV → List AE.Obj → Ans) : Ans := bindO (fnDq29 a) fun y => outq29 a K y
def Fq29 : List AV → List AE.Obj → (AV → List AE.Obj → Ans) → Ans := fun l H K => bindO (decAq29 l H) fun a => vFq29 a K
theorem Fq29_ok : FuncOk Try.prog 21 Fq29 := func_mkD (hint := noHint) (d := 0) (n := 70) mixed tabOk envq29Ok Try.func21 (bodySome (by kernel_rfl)) (by decide +kernel) annq29_ok decAq29_ok fnq29_ok fnq29_nat
--@ law44_Tape_next_2
noncomputable def envq44 : Env := []
theorem envq44Ok : EnvOk Try.prog envq44 := EnvOk.nil
noncomputable def bq44 : Code := Try.f15.body.getD .skip
noncomputable def Lq44_n1 : Code := codeAt [1,1,1,1,1,1,1,0,1] bq44
noncomputable def annLq44_n1 : Ann := .none
theorem annLq44_n1_ok : AnnOk Try.prog 73 Lq44_n1 annLq44_n1 := (annOk_none _ _ _)
abbrev Iq44_n1 := (Bool) × (List Int) × (Int) × (Int) × (List Int) × (List (Int × Int)) × (List (Int × List UInt8)) × (Int)
abbrev Yq44_n1 := (Int)
def Sq44_n1 : Iq44_n1 → St := fun (t59,o0_1,o0_4,o0_5,o1,o2,o3,o5_0) => { env := [(0,.ptr 0 0),(2,.ptr 4 0),(5,.ptr 5 0),(59,.bool t59)],stk := [[(0,.ptr 0 0)]],H := [.cells [.own 1,.ro (.int .i64) o0_1,.own 2,.own 3,.int .i64 o0_4,.int .i64 o0_5],.arr (.int .i64) o1,.arr (.st (.pair (.int .i64) (.int .i64))) o2,.arr (.st (.pair (.int .i64) .str)) o3,.cells [.int .i64 (0),.int .i64 (0)],.cells [.int .i64 o5_0,.int .i64 (0)]],blk := 61440 }
def decPq44_n1 (s : St) : Option {x : Iq44_n1 // s = Sq44_n1 x} := match s with
  | { env := [(0,.ptr 0 0),(2,.ptr 4 0),(5,.ptr 5 0),(59,.bool t59)],stk := [[(0,.ptr 0 0)]],H := [.cells [.own 1,.ro (.int .i64) o0_1,.own 2,.own 3,.int .i64 o0_4,.int .i64 o0_5],.arr (.int .i64) o1,.arr (.st (.pair (.int .i64) (.int .i64))) o2,.arr (.st (.pair (.int .i64) .str)) o3,.cells [.int .i64 r7,.int .i64 r8],.cells [.int .i64 o5_0,.int .i64 r10]],blk := 61440 } => if h7 : r7 = 0 then if h8 : r8 = 0 then if h10 : r10 = 0 then some ⟨(t59,o0_1,o0_4,o0_5,o1,o2,o3,o5_0),by subst h7 h8 h10; rfl⟩ else none else none else none
  | _ => none
def decq44_n1 (s : St) : Option Iq44_n1 := pk (decPq44_n1 s)
theorem decq44_n1_ok (s : St) (x : Iq44_n1) (h : decq44_n1 s = some x) : s = Sq44_n1 x := pk_ok (o := decPq44_n1 s) h
def outq44_n1 : Iq44_n1 → (Ex → St → Ans) → Yq44_n1 → Ans := fun (t59,o0_1,o0_4,o0_5,o1,o2,o3,o5_0) K => fun o5_1_y => K (Ex.norm) { env := [(2,.ptr 4 0),(5,.ptr 5 0)],stk := [[(0,.ptr 0 0)]],H := [.cells [.own 1,.ro (.int .i64) o0_1,.own 2,.own 3,.int .i64 o0_4,.int .i64 o0_5],.arr (.int .i64) o1,.arr (.st (.pair (.int .i64) (.int .i64))) o2,.arr (.st (.pair (.int .i64) .str)) o3,.cells [.int .i64 (0),.int .i64 (0)],.cells [.int .i64 o5_0,.int .i64 o5_1_y]],blk := 61440 }
def nodeq44_n1 {β : Type} : Iq44_n1 → (Yq44_n1 → Option β) → Option β := fun (t59,o0_1,o0_4,o0_5,o1,o2,o3,o5_0) exit => (bif t59 then (bindO (nth o0_1 (IntKind.wrap .i64 (o0_5 - (1 : Int)))) fun x => (exit (x))) else (exit ((0 : Int))))
def nodeDq44_n1 (i : Iq44_n1) : Option Yq44_n1 := nodeq44_n1 i some
theorem nodeq44_n1_nat (i : Iq44_n1) (k : Yq44_n1 → Ans) : nodeq44_n1 i k = bindO (nodeDq44_n1 i) k := by
  obtain ⟨t59,o0_1,o0_4,o0_5,o1,o2,o3,o5_0⟩ := i
  simp only [nodeDq44_n1,nodeq44_n1,bindO_cond,bindO_assoc,bindO_none,bindO_pure,bindO_elim,bindO_unP,bindO_empty]
theorem nodeq44_n1_ok (i : Iq44_n1) (K : Ex → St → Ans) : codeI Try.tab envq44 noHint (codeD Try.tab envq44 noHint 0 64) 70 73 annLq44_n1 Lq44_n1 (weakP 4 (exk [2,5] [2,3] []) K) (Sq44_n1 i) = nodeq44_n1 i (outq44_n1 i K) := by kernel_rfl
theorem GNq44_n1_ok : CSum Try.prog 73 Lq44_n1 (sumN decq44_n1 nodeDq44_n1 outq44_n1) := csum_node mixed tabOk envq44Ok 4 (exk [2,5] [2,3] []) annLq44_n1_ok decq44_n1_ok nodeq44_n1_ok nodeq44_n1_nat
noncomputable def Gq44_n1 : (Ex → St → Ans) → St → Ans := (sumN decq44_n1 nodeDq44_n1 outq44_n1)
theorem Gq44_n1_ok : CSum Try.prog 73 Lq44_n1 Gq44_n1 := GNq44_n1_ok
noncomputable def Lq44_n0 : Code := codeAt [1,1,1,0,1] bq44
noncomputable def annLq44_n0 : Ann := .none
theorem annLq44_n0_ok : AnnOk Try.prog 73 Lq44_n0 annLq44_n0 := (annOk_none _ _ _)
abbrev Iq44_n0 := (Bool) × (List Int) × (Int) × (Int) × (List Int) × (List (Int × Int)) × (List (Int × List UInt8))
abbrev Yq44_n0 := (Int)
def Sq44_n0 : Iq44_n0 → St := fun (t22,o0_1,o0_4,o0_5,o1,o2,o3) => { env := [(0,.ptr 0 0),(2,.ptr 4 0),(4,.int .i64 (0)),(22,.bool t22)],stk := [[(0,.ptr 0 0)]],H := [.cells [.own 1,.ro (.int .i64) o0_1,.own 2,.own 3,.int .i64 o0_4,.int .i64 o0_5],.arr (.int .i64) o1,.arr (.st (.pair (.int .i64) (.int .i64))) o2,.arr (.st (.pair (.int .i64) .str)) o3,.cells [.int .i64 (0),.int .i64 (0)]],blk := 61440 }
def decPq44_n0 (s : St) : Option {x : Iq44_n0 // s = Sq44_n0 x} := match s with
  | { env := [(0,.ptr 0 0),(2,.ptr 4 0),(4,.int .i64 r0),(22,.bool t22)],stk := [[(0,.ptr 0 0)]],H := [.cells [.own 1,.ro (.int .i64) o0_1,.own 2,.own 3,.int .i64 o0_4,.int .i64 o0_5],.arr (.int .i64) o1,.arr (.st (.pair (.int .i64) (.int .i64))) o2,.arr (.st (.pair (.int .i64) .str)) o3,.cells [.int .i64 r8,.int .i64 r9]],blk := 61440 } => if h0 : r0 = 0 then if h8 : r8 = 0 then if h9 : r9 = 0 then some ⟨(t22,o0_1,o0_4,o0_5,o1,o2,o3),by subst h0 h8 h9; rfl⟩ else none else none else none
  | _ => none
def decq44_n0 (s : St) : Option Iq44_n0 := pk (decPq44_n0 s)
theorem decq44_n0_ok (s : St) (x : Iq44_n0) (h : decq44_n0 s = some x) : s = Sq44_n0 x := pk_ok (o := decPq44_n0 s) h
def outq44_n0 : Iq44_n0 → (Ex → St → Ans) → Yq44_n0 → Ans := fun (t22,o0_1,o0_4,o0_5,o1,o2,o3) K => fun t4_y => K (Ex.norm) { env := [(0,.ptr 0 0),(2,.ptr 4 0),(4,.int .i64 t4_y)],stk := [[(0,.ptr 0 0)]],H := [.cells [.own 1,.ro (.int .i64) o0_1,.own 2,.own 3,.int .i64 o0_4,.int .i64 o0_5],.arr (.int .i64) o1,.arr (.st (.pair (.int .i64) (.int .i64))) o2,.arr (.st (.pair (.int .i64) .str)) o3,.cells [.int .i64 (0),.int .i64 (0)]],blk := 61440 }
def nodeq44_n0 {β : Type} : Iq44_n0 → (Yq44_n0 → Option β) → Option β := fun (t22,o0_1,o0_4,o0_5,o1,o2,o3) exit => (bif t22 then (bif inR (IntKind.wrap .i64 (o0_4 - (1 : Int))) (List.length o1) then (bindO (o1[Int.toNat (IntKind.wrap .i64 (o0_4 - (1 : Int)))]?) fun x => (exit (x))) else none) else (exit ((0 : Int))))
def nodeDq44_n0 (i : Iq44_n0) : Option Yq44_n0 := nodeq44_n0 i some
theorem nodeq44_n0_nat (i : Iq44_n0) (k : Yq44_n0 → Ans) : nodeq44_n0 i k = bindO (nodeDq44_n0 i) k := by
  obtain ⟨t22,o0_1,o0_4,o0_5,o1,o2,o3⟩ := i
  simp only [nodeDq44_n0,nodeq44_n0,bindO_cond,bindO_assoc,bindO_none,bindO_pure,bindO_elim,bindO_unP,bindO_empty]
theorem nodeq44_n0_ok (i : Iq44_n0) (K : Ex → St → Ans) : codeI Try.tab envq44 noHint (codeD Try.tab envq44 noHint 0 64) 70 73 annLq44_n0 Lq44_n0 (weakP 4 (exk [0,2,4] [2,3] []) K) (Sq44_n0 i) = nodeq44_n0 i (outq44_n0 i K) := by kernel_rfl
theorem GNq44_n0_ok : CSum Try.prog 73 Lq44_n0 (sumN decq44_n0 nodeDq44_n0 outq44_n0) := csum_node mixed tabOk envq44Ok 4 (exk [0,2,4] [2,3] []) annLq44_n0_ok decq44_n0_ok nodeq44_n0_ok nodeq44_n0_nat
noncomputable def Gq44_n0 : (Ex → St → Ans) → St → Ans := (sumN decq44_n0 nodeDq44_n0 outq44_n0)
theorem Gq44_n0_ok : CSum Try.prog 73 Lq44_n0 Gq44_n0 := GNq44_n0_ok
noncomputable def annq44 : Ann := (.seq .none (.seq .none (.seq .none (.seq (.seq .none (.cut 4 [0,2,4,22] Gq44_n0)) (.seq .none (.seq .none (.seq .none (.seq (.seq .none (.cut 4 [0,2,5,59] Gq44_n1)) .none))))))))
theorem annq44_ok : AnnOk Try.prog 73 bq44 annq44 := ⟨(annOk_none _ _ _),⟨(annOk_none _ _ _),⟨(annOk_none _ _ _),⟨⟨(annOk_none _ _ _),Gq44_n0_ok⟩,⟨(annOk_none _ _ _),⟨(annOk_none _ _ _),⟨(annOk_none _ _ _),⟨⟨(annOk_none _ _ _),Gq44_n1_ok⟩,(annOk_none _ _ _)⟩⟩⟩⟩⟩⟩⟩⟩
abbrev Aq44 := (List Int) × (Int) × (Int) × (List Int) × (List (Int × Int)) × (List (Int × List UInt8))
abbrev Yq44 := (Int) × (Int) × (Int) × (Int) × (Int)
def fnq44 {β : Type} : Aq44 → (Yq44 → Option β) → Option β := fun (o0_1,o0_4,o0_5,o1,o2,o3) exit => (bindO (nodeDq44_n0 (decide (IntKind.wrap .i64 (o0_4 + (1 : Int)) ≤ (↑(List.length o1) : Int)),o0_1,IntKind.wrap .i64 (o0_4 + (1 : Int)),o0_5,o1,o2,o3)) fun t4 => (bif t4 != (0 : Int) then (exit ((0 : Int),(0 : Int),t4,IntKind.wrap .i64 (o0_4 + (1 : Int)),o0_5)) else (bindO (nodeDq44_n1 (decide (IntKind.wrap .i64 (o0_5 + (1 : Int)) ≤ (↑(List.length o0_1) : Int)),o0_1,IntKind.wrap .i64 (o0_4 + (1 : Int)),IntKind.wrap .i64 (o0_5 + (1 : Int)),o1,o2,o3,IntKind.wrap .i64 (o0_5 + (1 : Int)))) fun o5_1 => (exit (IntKind.wrap .i64 (o0_5 + (1 : Int)),o5_1,(0 : Int),IntKind.wrap .i64 (o0_4 + (1 : Int)),IntKind.wrap .i64 (o0_5 + (1 : Int)))))))
def fnDq44 (a : Aq44) : Option Yq44 := fnq44 a some
theorem fnq44_nat (a : Aq44) (k : Yq44 → Ans) : fnq44 a k = bindO (fnDq44 a) k := by
  obtain ⟨o0_1,o0_4,o0_5,o1,o2,o3⟩ := a
  simp only [fnDq44,fnq44,bindO_cond,bindO_assoc,bindO_none,bindO_pure,bindO_elim,bindO_unP,bindO_empty]
def argsq44 : Aq44 → List AV × List AE.Obj := fun (o0_1,o0_4,o0_5,o1,o2,o3) => ([.ptr 0 0],[.cells [.own 1,.ro (.int .i64) o0_1,.own 2,.own 3,.int .i64 o0_4,.int .i64 o0_5],.arr (.int .i64) o1,.arr (.st (.pair (.int .i64) (.int .i64))) o2,.arr (.st (.pair (.int .i64) .str)) o3])
def decPAq44 (l : List AV) (H : List AE.Obj) : Option {a : Aq44 // (l,H) = argsq44 a} := match l,H with
  | [.ptr 0 0],[.cells [.own 1,.ro (.int .i64) o0_1,.own 2,.own 3,.int .i64 o0_4,.int .i64 o0_5],.arr (.int .i64) o1,.arr (.st (.pair (.int .i64) (.int .i64))) o2,.arr (.st (.pair (.int .i64) .str)) o3] => some ⟨(o0_1,o0_4,o0_5,o1,o2,o3),rfl⟩
  | _,_ => none
def decAq44 (l : List AV) (H : List AE.Obj) : Option Aq44 := pk (decPAq44 l H)
theorem decAq44_ok (l : List AV) (H : List AE.Obj) (a : Aq44) (h : decAq44 l H = some a) : (l,H) = argsq44 a := pk_ok (o := decPAq44 l H) h
def outq44 : Aq44 → (AV → List AE.Obj → Ans) → Yq44 → Ans := fun (o0_1,o0_4,o0_5,o1,o2,o3) K => unP fun r_0_0_y => unP fun r_0_1_y => unP fun r_1_y => unP fun o0_4_y o0_5_y => K (.tup [.agg [.int .i64 r_0_0_y,.int .i64 r_0_1_y],.int .i64 r_1_y]) [.cells [.own 1,.ro (.int .i64) o0_1,.own 2,.own 3,.int .i64 o0_4_y,.int .i64 o0_5_y],.arr (.int .i64) o1,.arr (.st (.pair (.int .i64) (.int .i64))) o2,.arr (.st (.pair (.int .i64) .str)) o3]
theorem fnq44_ok (a : Aq44) (K : AV → List AE.Obj → Ans) : fnE Try.tab envq44 noHint 0 70 15 Try.f15.ntmps Try.f15.results.toList annq44 bq44 (argsq44 a).1 (argsq44 a).2 K = fnq44 a (outq44 a K) := by kernel_rfl
def vFq44 (a : Aq44) (K : AV → List AE.Obj → Ans) : Ans := bindO (fnDq44 a) fun y => outq44 a K y
def Fq44 : List AV → List AE.Obj → (AV → List AE.Obj → Ans) → Ans := fun l H K => bindO (decAq44 l H) fun a => vFq44 a K
theorem Fq44_ok : FuncOk Try.prog 15 Fq44 := func_mkD (hint := noHint) (d := 0) (n := 70) mixed tabOk envq44Ok Try.func15 (bodySome (by kernel_rfl)) (by decide +kernel) annq44_ok decAq44_ok fnq44_ok fnq44_nat
--@ law44_Tape_Write_2
noncomputable def envq41 : Env := [(15,.func Fq44)]
theorem envq41Ok : EnvOk Try.prog envq41 := EnvOk.cons Fq44_ok (EnvOk.nil)
noncomputable def bq41 : Code := Try.f42.body.getD .skip
noncomputable def Lq41_n0 : Code := codeAt [1,1,0,1] bq41
noncomputable def annLq41_n0 : Ann := .none
theorem annLq41_n0_ok : AnnOk Try.prog 33 Lq41_n0 annLq41_n0 := (annOk_none _ _ _)
abbrev Iq41_n0 := (Int) × (List UInt8) × (Int) × (Bool) × (List Int) × (Int) × (Int) × (List Int) × (List (Int × Int)) × (List (Int × List UInt8)) × (Int) × (Int)
abbrev Yq41_n0 := ((List (Int × List UInt8))) ⊕ (Unit)
def Sq41_n0 : Iq41_n0 → St := fun (t1,t2,t9,t16,o0_1,o0_4,o0_5,o1,o2,o3,o5_0,o5_1) => { env := [(0,.ptr 0 0),(1,.int .i64 t1),(2,.str t2),(6,.ptr 4 0),(8,.ptr 5 0),(9,.int .i64 t9),(16,.bool t16)],stk := [[(0,.ptr 0 0)]],H := [.cells [.own 1,.ro (.int .i64) o0_1,.own 2,.own 3,.int .i64 o0_4,.int .i64 o0_5],.arr (.int .i64) o1,.arr (.st (.pair (.int .i64) (.int .i64))) o2,.arr (.st (.pair (.int .i64) .str)) o3,.cells [.int .i64 (0),.int .i64 (0)],.cells [.int .i64 o5_0,.int .i64 o5_1]],blk := 172032 }
def decPq41_n0 (s : St) : Option {x : Iq41_n0 // s = Sq41_n0 x} := match s with
  | { env := [(0,.ptr 0 0),(1,.int .i64 t1),(2,.str t2),(6,.ptr 4 0),(8,.ptr 5 0),(9,.int .i64 t9),(16,.bool t16)],stk := [[(0,.ptr 0 0)]],H := [.cells [.own 1,.ro (.int .i64) o0_1,.own 2,.own 3,.int .i64 o0_4,.int .i64 o0_5],.arr (.int .i64) o1,.arr (.st (.pair (.int .i64) (.int .i64))) o2,.arr (.st (.pair (.int .i64) .str)) o3,.cells [.int .i64 r10,.int .i64 r11],.cells [.int .i64 o5_0,.int .i64 o5_1]],blk := 172032 } => if h10 : r10 = 0 then if h11 : r11 = 0 then some ⟨(t1,t2,t9,t16,o0_1,o0_4,o0_5,o1,o2,o3,o5_0,o5_1),by subst h10 h11; rfl⟩ else none else none
  | _ => none
def decq41_n0 (s : St) : Option Iq41_n0 := pk (decPq41_n0 s)
theorem decq41_n0_ok (s : St) (x : Iq41_n0) (h : decq41_n0 s = some x) : s = Sq41_n0 x := pk_ok (o := decPq41_n0 s) h
def outq41_n0 : Iq41_n0 → (Ex → St → Ans) → Yq41_n0 → Ans := fun (t1,t2,t9,t16,o0_1,o0_4,o0_5,o1,o2,o3,o5_0,o5_1) K => (Sum.elim (fun o6_y => K (Ex.norm) { env := [(6,.ptr 4 0),(8,.ptr 5 0),(9,.int .i64 t9)],stk := [[(0,.ptr 0 0)]],H := [.cells [.own 1,.ro (.int .i64) o0_1,.own 2,.own 6,.int .i64 o0_4,.int .i64 o0_5],.arr (.int .i64) o1,.arr (.st (.pair (.int .i64) (.int .i64))) o2,.arr (.st (.pair (.int .i64) .str)) o3,.cells [.int .i64 (0),.int .i64 (0)],.cells [.int .i64 o5_0,.int .i64 o5_1],.arr (.st (.pair (.int .i64) .str)) o6_y],blk := 172032 }) (fun _ => K (Ex.norm) { env := [(6,.ptr 4 0),(8,.ptr 5 0),(9,.int .i64 t9)],stk := [[(0,.ptr 0 0)]],H := [.cells [.own 1,.ro (.int .i64) o0_1,.own 2,.own 3,.int .i64 o0_4,.int .i64 o0_5],.arr (.int .i64) o1,.arr (.st (.pair (.int .i64) (.int .i64))) o2,.arr (.st (.pair (.int .i64) .str)) o3,.cells [.int .i64 (0),.int .i64 (0)],.cells [.int .i64 o5_0,.int .i64 o5_1]],blk := 172032 }))
def nodeq41_n0 {β : Type} : Iq41_n0 → (Yq41_n0 → Option β) → Option β := fun (t1,t2,t9,t16,o0_1,o0_4,o0_5,o1,o2,o3,o5_0,o5_1) exit => (bif t16 then (bif Nat.ble (((0 : Nat) + List.length o3) * (24 : Nat)) (140737488355328 : Nat) then (bif Nat.ble ((List.length o3 + List.length [(t1,t2)]) * (24 : Nat)) (140737488355328 : Nat) then (exit (Sum.inl (o3 ++ [(t1,t2)]))) else none) else none) else (exit (Sum.inr ())))
def nodeDq41_n0 (i : Iq41_n0) : Option Yq41_n0 := nodeq41_n0 i some
theorem nodeq41_n0_nat (i : Iq41_n0) (k : Yq41_n0 → Ans) : nodeq41_n0 i k = bindO (nodeDq41_n0 i) k := by
  obtain ⟨t1,t2,t9,t16,o0_1,o0_4,o0_5,o1,o2,o3,o5_0,o5_1⟩ := i
  simp only [nodeDq41_n0,nodeq41_n0,bindO_cond,bindO_assoc,bindO_none,bindO_pure,bindO_elim,bindO_unP,bindO_empty]
theorem nodeq41_n0_ok (i : Iq41_n0) (K : Ex → St → Ans) : codeI Try.tab envq41 noHint (codeD Try.tab envq41 noHint 0 64) 70 33 annLq41_n0 Lq41_n0 (weakP 4 (exk [6,8,9] [6,7] []) K) (Sq41_n0 i) = nodeq41_n0 i (outq41_n0 i K) := by kernel_rfl
theorem GNq41_n0_ok : CSum Try.prog 33 Lq41_n0 (sumN decq41_n0 nodeDq41_n0 outq41_n0) := csum_node mixed tabOk envq41Ok 4 (exk [6,8,9] [6,7] []) annLq41_n0_ok decq41_n0_ok nodeq41_n0_ok nodeq41_n0_nat
noncomputable def Gq41_n0 : (Ex → St → Ans) → St → Ans := (sumN decq41_n0 nodeDq41_n0 outq41_n0)
theorem Gq41_n0_ok : CSum Try.prog 33 Lq41_n0 Gq41_n0 := GNq41_n0_ok
noncomputable def annq41 : Ann := (.seq .none (.seq .none (.seq (.seq .none (.cut 4 [0,1,2,6,8,9,16] Gq41_n0)) .none)))
theorem annq41_ok : AnnOk Try.prog 33 bq41 annq41 := ⟨(annOk_none _ _ _),⟨(annOk_none _ _ _),⟨⟨(annOk_none _ _ _),Gq41_n0_ok⟩,(annOk_none _ _ _)⟩⟩⟩
abbrev Aq41 := (Int) × (List UInt8) × (List Int) × (Int) × (Int) × (List Int) × (List (Int × Int)) × (List (Int × List UInt8))
abbrev Yq41 := ((Int) × (Int) × (Int) × (Int) × (Int) × (List (Int × List UInt8))) ⊕ ((Int) × (Int) × (Int) × (Int) × (Int))
def fnq41 {β : Type} : Aq41 → (Yq41 → Option β) → Option β := fun (a1,a2,o0_1,o0_4,o0_5,o1,o2,o3) exit => (bindO (fnDq44 (o0_1,o0_4,o0_5,o1,o2,o3)) (unP fun r_0_0 => unP fun r_0_1 => unP fun r_1 => unP fun o0_4_2 o0_5_2 => (bindO (nodeDq41_n0 (a1,a2,r_1,r_1 == (0 : Int),o0_1,o0_4_2,o0_5_2,o1,o2,o3,r_0_0,r_0_1)) (Sum.elim (fun o6 => (exit (Sum.inl (r_0_0,r_0_1,r_1,o0_4_2,o0_5_2,o6)))) (fun _ => (exit (Sum.inr (r_0_0,r_0_1,r_1,o0_4_2,o0_5_2))))))))
def fnDq41 (a : Aq41) : Option Yq41 := fnq41 a some
theorem fnq41_nat (a : Aq41) (k : Yq41 → Ans) : fnq41 a k = bindO (fnDq41 a) k := by
  obtain ⟨a1,a2,o0_1,o0_4,o0_5,o1,o2,o3⟩ := a
  simp only [fnDq41,fnq41,bindO_cond,bindO_assoc,bindO_none,bindO_pure,bindO_elim,bindO_unP,bindO_empty]
def argsq41 : Aq41 → List AV × List AE.Obj := fun (a1,a2,o0_1,o0_4,o0_5,o1,o2,o3) => ([.ptr 0 0,.int .i64 a1,.str a2],[.cells [.own 1,.ro (.int .i64) o0_1,.own 2,.own 3,.int .i64 o0_4,.int .i64 o0_5],.arr (.int .i64) o1,.arr (.st (.pair (.int .i64) (.int .i64))) o2,.arr (.st (.pair (.int .i64) .str)) o3])
def decPAq41 (l : List AV) (H : List AE.Obj) : Option {a : Aq41 // (l,H) = argsq41 a} := match l,H with
  | [.ptr 0 0,.int .i64 a1,.str a2],[.cells [.own 1,.ro (.int .i64) o0_1,.own 2,.own 3,.int .i64 o0_4,.int .i64 o0_5],.arr (.int .i64) o1,.arr (.st (.pair (.int .i64) (.int .i64))) o2,.arr (.st (.pair (.int .i64) .str)) o3] => some ⟨(a1,a2,o0_1,o0_4,o0_5,o1,o2,o3),rfl⟩
  | _,_ => none
def decAq41 (l : List AV) (H : List AE.Obj) : Option Aq41 := pk (decPAq41 l H)
theorem decAq41_ok (l : List AV) (H : List AE.Obj) (a : Aq41) (h : decAq41 l H = some a) : (l,H) = argsq41 a := pk_ok (o := decPAq41 l H) h
def outq41 : Aq41 → (AV → List AE.Obj → Ans) → Yq41 → Ans := fun (a1,a2,o0_1,o0_4,o0_5,o1,o2,o3) K => (Sum.elim (unP fun r_0_0_y => unP fun r_0_1_y => unP fun r_1_y => unP fun o0_4_y => unP fun o0_5_y o4_y => K (.tup [.agg [.int .i64 r_0_0_y,.int .i64 r_0_1_y],.int .i64 r_1_y]) [.cells [.own 1,.ro (.int .i64) o0_1,.own 2,.own 4,.int .i64 o0_4_y,.int .i64 o0_5_y],.arr (.int .i64) o1,.arr (.st (.pair (.int .i64) (.int .i64))) o2,.arr (.st (.pair (.int .i64) .str)) o3,.arr (.st (.pair (.int .i64) .str)) o4_y]) (unP fun r_0_0_y => unP fun r_0_1_y => unP fun r_1_y => unP fun o0_4_y o0_5_y => K (.tup [.agg [.int .i64 r_0_0_y,.int .i64 r_0_1_y],.int .i64 r_1_y]) [.cells [.own 1,.ro (.int .i64) o0_1,.own 2,.own 3,.int .i64 o0_4_y,.int .i64 o0_5_y],.arr (.int .i64) o1,.arr (.st (.pair (.int .i64) (.int .i64))) o2,.arr (.st (.pair (.int .i64) .str)) o3]))
theorem fnq41_ok (a : Aq41) (K : AV → List AE.Obj → Ans) : fnE Try.tab envq41 noHint 0 70 42 Try.f42.ntmps Try.f42.results.toList annq41 bq41 (argsq41 a).1 (argsq41 a).2 K = fnq41 a (outq41 a K) := by kernel_rfl
def vFq41 (a : Aq41) (K : AV → List AE.Obj → Ans) : Ans := bindO (fnDq41 a) fun y => outq41 a K y
def Fq41 : List AV → List AE.Obj → (AV → List AE.Obj → Ans) → Ans := fun l H K => bindO (decAq41 l H) fun a => vFq41 a K
theorem Fq41_ok : FuncOk Try.prog 42 Fq41 := func_mkD (hint := noHint) (d := 0) (n := 70) mixed tabOk envq41Ok Try.func42 (bodySome (by kernel_rfl)) (by decide +kernel) annq41_ok decAq41_ok fnq41_ok fnq41_nat
--@ law44_Tape_next_3
noncomputable def envq45 : Env := []
theorem envq45Ok : EnvOk Try.prog envq45 := EnvOk.nil
noncomputable def bq45 : Code := Try.f15.body.getD .skip
noncomputable def Lq45_n1 : Code := codeAt [1,1,1,1,1,1,1,0,1] bq45
noncomputable def annLq45_n1 : Ann := .none
theorem annLq45_n1_ok : AnnOk Try.prog 73 Lq45_n1 annLq45_n1 := (annOk_none _ _ _)
abbrev Iq45_n1 := (Bool) × (List Int) × (Int) × (Int) × (List Int) × (List (Int × Int)) × (List (Int × List UInt8)) × (Int)
abbrev Yq45_n1 := (Int)
def Sq45_n1 : Iq45_n1 → St := fun (t59,o0_0,o0_4,o0_5,o1,o2,o3,o5_0) => { env := [(0,.ptr 0 0),(2,.ptr 4 0),(5,.ptr 5 0),(59,.bool t59)],stk := [[(0,.ptr 0 0)]],H := [.cells [.ro (.int .i64) o0_0,.own 1,.own 2,.own 3,.int .i64 o0_4,.int .i64 o0_5],.arr (.int .i64) o1,.arr (.st (.pair (.int .i64) (.int .i64))) o2,.arr (.st (.pair (.int .i64) .str)) o3,.cells [.int .i64 (0),.int .i64 (0)],.cells [.int .i64 o5_0,.int .i64 (0)]],blk := 61440 }
def decPq45_n1 (s : St) : Option {x : Iq45_n1 // s = Sq45_n1 x} := match s with
  | { env := [(0,.ptr 0 0),(2,.ptr 4 0),(5,.ptr 5 0),(59,.bool t59)],stk := [[(0,.ptr 0 0)]],H := [.cells [.ro (.int .i64) o0_0,.own 1,.own 2,.own 3,.int .i64 o0_4,.int .i64 o0_5],.arr (.int .i64) o1,.arr (.st (.pair (.int .i64) (.int .i64))) o2,.arr (.st (.pair (.int .i64) .str)) o3,.cells [.int .i64 r7,.int .i64 r8],.cells [.int .i64 o5_0,.int .i64 r10]],blk := 61440 } => if h7 : r7 = 0 then if h8 : r8 = 0 then if h10 : r10 = 0 then some ⟨(t59,o0_0,o0_4,o0_5,o1,o2,o3,o5_0),by subst h7 h8 h10; rfl⟩ else none else none else none
  | _ => none
def decq45_n1 (s : St) : Option Iq45_n1 := pk (decPq45_n1 s)
theorem decq45_n1_ok (s : St) (x : Iq45_n1) (h : decq45_n1 s = some x) : s = Sq45_n1 x := pk_ok (o := decPq45_n1 s) h
def outq45_n1 : Iq45_n1 → (Ex → St → Ans) → Yq45_n1 → Ans := fun (t59,o0_0,o0_4,o0_5,o1,o2,o3,o5_0) K => fun o5_1_y => K (Ex.norm) { env := [(2,.ptr 4 0),(5,.ptr 5 0)],stk := [[(0,.ptr 0 0)]],H := [.cells [.ro (.int .i64) o0_0,.own 1,.own 2,.own 3,.int .i64 o0_4,.int .i64 o0_5],.arr (.int .i64) o1,.arr (.st (.pair (.int .i64) (.int .i64))) o2,.arr (.st (.pair (.int .i64) .str)) o3,.cells [.int .i64 (0),.int .i64 (0)],.cells [.int .i64 o5_0,.int .i64 o5_1_y]],blk := 61440 }
def nodeq45_n1 {β : Type} : Iq45_n1 → (Yq45_n1 → Option β) → Option β := fun (t59,o0_0,o0_4,o0_5,o1,o2,o3,o5_0) exit => (bif t59 then (bif inR (IntKind.wrap .i64 (o0_5 - (1 : Int))) (List.length o1) then (bindO (o1[Int.toNat (IntKind.wrap .i64 (o0_5 - (1 : Int)))]?) fun x => (exit (x))) else none) else (exit ((0 : Int))))
def nodeDq45_n1 (i : Iq45_n1) : Option Yq45_n1 := nodeq45_n1 i some
theorem nodeq45_n1_nat (i : Iq45_n1) (k : Yq45_n1 → Ans) : nodeq45_n1 i k = bindO (nodeDq45_n1 i) k := by
  obtain ⟨t59,o0_0,o0_4,o0_5,o1,o2,o3,o5_0⟩ := i
  simp only [nodeDq45_n1,nodeq45_n1,bindO_cond,bindO_assoc,bindO_none,bindO_pure,bindO_elim,bindO_unP,bindO_empty]
theorem nodeq45_n1_ok (i : Iq45_n1) (K : Ex → St → Ans) : codeI Try.tab envq45 noHint (codeD Try.tab envq45 noHint 0 64) 70 73 annLq45_n1 Lq45_n1 (weakP 4 (exk [2,5] [2,3] []) K) (Sq45_n1 i) = nodeq45_n1 i (outq45_n1 i K) := by kernel_rfl
theorem GNq45_n1_ok : CSum Try.prog 73 Lq45_n1 (sumN decq45_n1 nodeDq45_n1 outq45_n1) := csum_node mixed tabOk envq45Ok 4 (exk [2,5] [2,3] []) annLq45_n1_ok decq45_n1_ok nodeq45_n1_ok nodeq45_n1_nat
noncomputable def Gq45_n1 : (Ex → St → Ans) → St → Ans := (sumN decq45_n1 nodeDq45_n1 outq45_n1)
theorem Gq45_n1_ok : CSum Try.prog 73 Lq45_n1 Gq45_n1 := GNq45_n1_ok
noncomputable def Lq45_n0 : Code := codeAt [1,1,1,0,1] bq45
noncomputable def annLq45_n0 : Ann := .none
theorem annLq45_n0_ok : AnnOk Try.prog 73 Lq45_n0 annLq45_n0 := (annOk_none _ _ _)
abbrev Iq45_n0 := (Bool) × (List Int) × (Int) × (Int) × (List Int) × (List (Int × Int)) × (List (Int × List UInt8))
abbrev Yq45_n0 := (Int)
def Sq45_n0 : Iq45_n0 → St := fun (t22,o0_0,o0_4,o0_5,o1,o2,o3) => { env := [(0,.ptr 0 0),(2,.ptr 4 0),(4,.int .i64 (0)),(22,.bool t22)],stk := [[(0,.ptr 0 0)]],H := [.cells [.ro (.int .i64) o0_0,.own 1,.own 2,.own 3,.int .i64 o0_4,.int .i64 o0_5],.arr (.int .i64) o1,.arr (.st (.pair (.int .i64) (.int .i64))) o2,.arr (.st (.pair (.int .i64) .str)) o3,.cells [.int .i64 (0),.int .i64 (0)]],blk := 61440 }
def decPq45_n0 (s : St) : Option {x : Iq45_n0 // s = Sq45_n0 x} := match s with
  | { env := [(0,.ptr 0 0),(2,.ptr 4 0),(4,.int .i64 r0),(22,.bool t22)],stk := [[(0,.ptr 0 0)]],H := [.cells [.ro (.int .i64) o0_0,.own 1,.own 2,.own 3,.int .i64 o0_4,.int .i64 o0_5],.arr (.int .i64) o1,.arr (.st (.pair (.int .i64) (.int .i64))) o2,.arr (.st (.pair (.int .i64) .str)) o3,.cells [.int .i64 r8,.int .i64 r9]],blk := 61440 } => if h0 : r0 = 0 then if h8 : r8 = 0 then if h9 : r9 = 0 then some ⟨(t22,o0_0,o0_4,o0_5,o1,o2,o3),by subst h0 h8 h9; rfl⟩ else none else none else none
  | _ => none
def decq45_n0 (s : St) : Option Iq45_n0 := pk (decPq45_n0 s)
theorem decq45_n0_ok (s : St) (x : Iq45_n0) (h : decq45_n0 s = some x) : s = Sq45_n0 x := pk_ok (o := decPq45_n0 s) h
def outq45_n0 : Iq45_n0 → (Ex → St → Ans) → Yq45_n0 → Ans := fun (t22,o0_0,o0_4,o0_5,o1,o2,o3) K => fun t4_y => K (Ex.norm) { env := [(0,.ptr 0 0),(2,.ptr 4 0),(4,.int .i64 t4_y)],stk := [[(0,.ptr 0 0)]],H := [.cells [.ro (.int .i64) o0_0,.own 1,.own 2,.own 3,.int .i64 o0_4,.int .i64 o0_5],.arr (.int .i64) o1,.arr (.st (.pair (.int .i64) (.int .i64))) o2,.arr (.st (.pair (.int .i64) .str)) o3,.cells [.int .i64 (0),.int .i64 (0)]],blk := 61440 }
def nodeq45_n0 {β : Type} : Iq45_n0 → (Yq45_n0 → Option β) → Option β := fun (t22,o0_0,o0_4,o0_5,o1,o2,o3) exit => (bif t22 then (bindO (nth o0_0 (IntKind.wrap .i64 (o0_4 - (1 : Int)))) fun x => (exit (x))) else (exit ((0 : Int))))
def nodeDq45_n0 (i : Iq45_n0) : Option Yq45_n0 := nodeq45_n0 i some
theorem nodeq45_n0_nat (i : Iq45_n0) (k : Yq45_n0 → Ans) : nodeq45_n0 i k = bindO (nodeDq45_n0 i) k := by
  obtain ⟨t22,o0_0,o0_4,o0_5,o1,o2,o3⟩ := i
  simp only [nodeDq45_n0,nodeq45_n0,bindO_cond,bindO_assoc,bindO_none,bindO_pure,bindO_elim,bindO_unP,bindO_empty]
theorem nodeq45_n0_ok (i : Iq45_n0) (K : Ex → St → Ans) : codeI Try.tab envq45 noHint (codeD Try.tab envq45 noHint 0 64) 70 73 annLq45_n0 Lq45_n0 (weakP 4 (exk [0,2,4] [2,3] []) K) (Sq45_n0 i) = nodeq45_n0 i (outq45_n0 i K) := by kernel_rfl
theorem GNq45_n0_ok : CSum Try.prog 73 Lq45_n0 (sumN decq45_n0 nodeDq45_n0 outq45_n0) := csum_node mixed tabOk envq45Ok 4 (exk [0,2,4] [2,3] []) annLq45_n0_ok decq45_n0_ok nodeq45_n0_ok nodeq45_n0_nat
noncomputable def Gq45_n0 : (Ex → St → Ans) → St → Ans := (sumN decq45_n0 nodeDq45_n0 outq45_n0)
theorem Gq45_n0_ok : CSum Try.prog 73 Lq45_n0 Gq45_n0 := GNq45_n0_ok
noncomputable def annq45 : Ann := (.seq .none (.seq .none (.seq .none (.seq (.seq .none (.cut 4 [0,2,4,22] Gq45_n0)) (.seq .none (.seq .none (.seq .none (.seq (.seq .none (.cut 4 [0,2,5,59] Gq45_n1)) .none))))))))
theorem annq45_ok : AnnOk Try.prog 73 bq45 annq45 := ⟨(annOk_none _ _ _),⟨(annOk_none _ _ _),⟨(annOk_none _ _ _),⟨⟨(annOk_none _ _ _),Gq45_n0_ok⟩,⟨(annOk_none _ _ _),⟨(annOk_none _ _ _),⟨(annOk_none _ _ _),⟨⟨(annOk_none _ _ _),Gq45_n1_ok⟩,(annOk_none _ _ _)⟩⟩⟩⟩⟩⟩⟩⟩
abbrev Aq45 := (List Int) × (Int) × (Int) × (List Int) × (List (Int × Int)) × (List (Int × List UInt8))
abbrev Yq45 := (Int) × (Int) × (Int) × (Int) × (Int)
def fnq45 {β : Type} : Aq45 → (Yq45 → Option β) → Option β := fun (o0_0,o0_4,o0_5,o1,o2,o3) exit => (bindO (nodeDq45_n0 (decide (IntKind.wrap .i64 (o0_4 + (1 : Int)) ≤ (↑(List.length o0_0) : Int)),o0_0,IntKind.wrap .i64 (o0_4 + (1 : Int)),o0_5,o1,o2,o3)) fun t4 => (bif t4 != (0 : Int) then (exit ((0 : Int),(0 : Int),t4,IntKind.wrap .i64 (o0_4 + (1 : Int)),o0_5)) else (bindO (nodeDq45_n1 (decide (IntKind.wrap .i64 (o0_5 + (1 : Int)) ≤ (↑(List.length o1) : Int)),o0_0,IntKind.wrap .i64 (o0_4 + (1 : Int)),IntKind.wrap .i64 (o0_5 + (1 : Int)),o1,o2,o3,IntKind.wrap .i64 (o0_5 + (1 : Int)))) fun o5_1 => (exit (IntKind.wrap .i64 (o0_5 + (1 : Int)),o5_1,(0 : Int),IntKind.wrap .i64 (o0_4 + (1 : Int)),IntKind.wrap .i64 (o0_5 + (1 : Int)))))))
def fnDq45 (a : Aq45) : Option Yq45 := fnq45 a some
theorem fnq45_nat (a : Aq45) (k : Yq45 → Ans) : fnq45 a k = bindO (fnDq45 a) k := by
  obtain ⟨o0_0,o0_4,o0_5,o1,o2,o3⟩ := a
  simp only [fnDq45,fnq45,bindO_cond,bindO_assoc,bindO_none,bindO_pure,bindO_elim,bindO_unP,bindO_empty]
def argsq45 : Aq45 → List AV × List AE.Obj := fun (o0_0,o0_4,o0_5,o1,o2,o3) => ([.ptr 0 0],[.cells [.ro (.int .i64) o0_0,.own 1,.own 2,.own 3,.int .i64 o0_4,.int .i64 o0_5],.arr (.int .i64) o1,.arr (.st (.pair (.int .i64) (.int .i64))) o2,.arr (.st (.pair (.int .i64) .str)) o3])
def decPAq45 (l : List AV) (H : List AE.Obj) : Option {a : Aq45 // (l,H) = argsq45 a} := match l,H with
  | [.ptr 0 0],[.cells [.ro (.int .i64) o0_0,.own 1,.own 2,.own 3,.int .i64 o0_4,.int .i64 o0_5],.arr (.int .i64) o1,.arr (.st (.pair (.int .i64) (.int .i64))) o2,.arr (.st (.pair (.int .i64) .str)) o3] => some ⟨(o0_0,o0_4,o0_5,o1,o2,o3),rfl⟩
  | _,_ => none
def decAq45 (l : List AV) (H : List AE.Obj) : Option Aq45 := pk (decPAq45 l H)
theorem decAq45_ok (l : List AV) (H : List AE.Obj) (a : Aq45) (h : decAq45 l H = some a) : (l,H) = argsq45 a := pk_ok (o := decPAq45 l H) h
def outq45 : Aq45 → (AV → List AE.Obj → Ans) → Yq45 → Ans := fun (o0_0,o0_4,o0_5,o1,o2,o3) K => unP fun r_0_0_y => unP fun r_0_1_y => unP fun r_1_y => unP fun o0_4_y o0_5_y => K (.tup [.agg [.int .i64 r_0_0_y,.int .i64 r_0_1_y],.int .i64 r_1_y]) [.cells [.ro (.int .i64) o0_0,.own 1,.own 2,.own 3,.int .i64 o0_4_y,.int .i64 o0_5_y],.arr (.int .i64) o1,.arr (.st (.pair (.int .i64) (.int .i64))) o2,.arr (.st (.pair (.int .i64) .str)) o3]
theorem fnq45_ok (a : Aq45) (K : AV → List AE.Obj → Ans) : fnE Try.tab envq45 noHint 0 70 15 Try.f15.ntmps Try.f15.results.toList annq45 bq45 (argsq45 a).1 (argsq45 a).2 K = fnq45 a (outq45 a K) := by kernel_rfl
def vFq45 (a : Aq45) (K : AV → List AE.Obj → Ans) : Ans := bindO (fnDq45 a) fun y => outq45 a K y
def Fq45 : List AV → List AE.Obj → (AV → List AE.Obj → Ans) → Ans := fun l H K => bindO (decAq45 l H) fun a => vFq45 a K
theorem Fq45_ok : FuncOk Try.prog 15 Fq45 := func_mkD (hint := noHint) (d := 0) (n := 70) mixed tabOk envq45Ok Try.func15 (bodySome (by kernel_rfl)) (by decide +kernel) annq45_ok decAq45_ok fnq45_ok fnq45_nat
--@ law44_Tape_Write_3
noncomputable def envq42 : Env := [(15,.func Fq45)]
theorem envq42Ok : EnvOk Try.prog envq42 := EnvOk.cons Fq45_ok (EnvOk.nil)
noncomputable def bq42 : Code := Try.f42.body.getD .skip
noncomputable def Lq42_n0 : Code := codeAt [1,1,0,1] bq42
noncomputable def annLq42_n0 : Ann := .none
theorem annLq42_n0_ok : AnnOk Try.prog 33 Lq42_n0 annLq42_n0 := (annOk_none _ _ _)
abbrev Iq42_n0 := (Int) × (List UInt8) × (Int) × (Bool) × (List Int) × (Int) × (Int) × (List Int) × (List (Int × Int)) × (List (Int × List UInt8)) × (Int) × (Int)
abbrev Yq42_n0 := ((List (Int × List UInt8))) ⊕ (Unit)
def Sq42_n0 : Iq42_n0 → St := fun (t1,t2,t9,t16,o0_0,o0_4,o0_5,o1,o2,o3,o5_0,o5_1) => { env := [(0,.ptr 0 0),(1,.int .i64 t1),(2,.str t2),(6,.ptr 4 0),(8,.ptr 5 0),(9,.int .i64 t9),(16,.bool t16)],stk := [[(0,.ptr 0 0)]],H := [.cells [.ro (.int .i64) o0_0,.own 1,.own 2,.own 3,.int .i64 o0_4,.int .i64 o0_5],.arr (.int .i64) o1,.arr (.st (.pair (.int .i64) (.int .i64))) o2,.arr (.st (.pair (.int .i64) .str)) o3,.cells [.int .i64 (0),.int .i64 (0)],.cells [.int .i64 o5_0,.int .i64 o5_1]],blk := 172032 }
def decPq42_n0 (s : St) : Option {x : Iq42_n0 // s = Sq42_n0 x} := match s with
  | { env := [(0,.ptr 0 0),(1,.int .i64 t1),(2,.str t2),(6,.ptr 4 0),(8,.ptr 5 0),(9,.int .i64 t9),(16,.bool t16)],stk := [[(0,.ptr 0 0)]],H := [.cells [.ro (.int .i64) o0_0,.own 1,.own 2,.own 3,.int .i64 o0_4,.int .i64 o0_5],.arr (.int .i64) o1,.arr (.st (.pair (.int .i64) (.int .i64))) o2,.arr (.st (.pair (.int .i64) .str)) o3,.cells [.int .i64 r10,.int .i64 r11],.cells [.int .i64 o5_0,.int .i64 o5_1]],blk := 172032 } => if h10 : r10 = 0 then if h11 : r11 = 0 then some ⟨(t1,t2,t9,t16,o0_0,o0_4,o0_5,o1,o2,o3,o5_0,o5_1),by subst h10 h11; rfl⟩ else none else none
  | _ => none
def decq42_n0 (s : St) : Option Iq42_n0 := pk (decPq42_n0 s)
theorem decq42_n0_ok (s : St) (x : Iq42_n0) (h : decq42_n0 s = some x) : s = Sq42_n0 x := pk_ok (o := decPq42_n0 s) h
def outq42_n0 : Iq42_n0 → (Ex → St → Ans) → Yq42_n0 → Ans := fun (t1,t2,t9,t16,o0_0,o0_4,o0_5,o1,o2,o3,o5_0,o5_1) K => (Sum.elim (fun o6_y => K (Ex.norm) { env := [(6,.ptr 4 0),(8,.ptr 5 0),(9,.int .i64 t9)],stk := [[(0,.ptr 0 0)]],H := [.cells [.ro (.int .i64) o0_0,.own 1,.own 2,.own 6,.int .i64 o0_4,.int .i64 o0_5],.arr (.int .i64) o1,.arr (.st (.pair (.int .i64) (.int .i64))) o2,.arr (.st (.pair (.int .i64) .str)) o3,.cells [.int .i64 (0),.int .i64 (0)],.cells [.int .i64 o5_0,.int .i64 o5_1],.arr (.st (.pair (.int .i64) .str)) o6_y],blk := 172032 }) (fun _ => K (Ex.norm) { env := [(6,.ptr 4 0),(8,.ptr 5 0),(9,.int .i64 t9)],stk := [[(0,.ptr 0 0)]],H := [.cells [.ro (.int .i64) o0_0,.own 1,.own 2,.own 3,.int .i64 o0_4,.int .i64 o0_5],.arr (.int .i64) o1,.arr (.st (.pair (.int .i64) (.int .i64))) o2,.arr (.st (.pair (.int .i64) .str)) o3,.cells [.int .i64 (0),.int .i64 (0)],.cells [.int .i64 o5_0,.int .i64 o5_1]],blk := 172032 }))
def nodeq42_n0 {β : Type} : Iq42_n0 → (Yq42_n0 → Option β) → Option β := fun (t1,t2,t9,t16,o0_0,o0_4,o0_5,o1,o2,o3,o5_0,o5_1) exit => (bif t16 then (bif Nat.ble (((0 : Nat) + List.length o3) * (24 : Nat)) (140737488355328 : Nat) then (bif Nat.ble ((List.length o3 + List.length [(t1,t2)]) * (24 : Nat)) (140737488355328 : Nat) then (exit (Sum.inl (o3 ++ [(t1,t2)]))) else none) else none) else (exit (Sum.inr ())))
def nodeDq42_n0 (i : Iq42_n0) : Option Yq42_n0 := nodeq42_n0 i some
theorem nodeq42_n0_nat (i : Iq42_n0) (k : Yq42_n0 → Ans) : nodeq42_n0 i k = bindO (nodeDq42_n0 i) k := by
  obtain ⟨t1,t2,t9,t16,o0_0,o0_4,o0_5,o1,o2,o3,o5_0,o5_1⟩ := i
  simp only [nodeDq42_n0,nodeq42_n0,bindO_cond,bindO_assoc,bindO_none,bindO_pure,bindO_elim,bindO_unP,bindO_empty]
theorem nodeq42_n0_ok (i : Iq42_n0) (K : Ex → St → Ans) : codeI Try.tab envq42 noHint (codeD Try.tab envq42 noHint 0 64) 70 33 annLq42_n0 Lq42_n0 (weakP 4 (exk [6,8,9] [6,7] []) K) (Sq42_n0 i) = nodeq42_n0 i (outq42_n0 i K) := by kernel_rfl
theorem GNq42_n0_ok : CSum Try.prog 33 Lq42_n0 (sumN decq42_n0 nodeDq42_n0 outq42_n0) := csum_node mixed tabOk envq42Ok 4 (exk [6,8,9] [6,7] []) annLq42_n0_ok decq42_n0_ok nodeq42_n0_ok nodeq42_n0_nat
noncomputable def Gq42_n0 : (Ex → St → Ans) → St → Ans := (sumN decq42_n0 nodeDq42_n0 outq42_n0)
theorem Gq42_n0_ok : CSum Try.prog 33 Lq42_n0 Gq42_n0 := GNq42_n0_ok
noncomputable def annq42 : Ann := (.seq .none (.seq .none (.seq (.seq .none (.cut 4 [0,1,2,6,8,9,16] Gq42_n0)) .none)))
theorem annq42_ok : AnnOk Try.prog 33 bq42 annq42 := ⟨(annOk_none _ _ _),⟨(annOk_none _ _ _),⟨⟨(annOk_none _ _ _),Gq42_n0_ok⟩,(annOk_none _ _ _)⟩⟩⟩
abbrev Aq42 := (Int) × (List UInt8) × (List Int) × (Int) × (Int) × (List Int) × (List (Int × Int)) × (List (Int × List UInt8))
abbrev Yq42 := ((Int) × (Int) × (Int) × (Int) × (Int) × (List (Int × List UInt8))) ⊕ ((Int) × (Int) × (Int) × (Int) × (Int))
def fnq42 {β : Type} : Aq42 → (Yq42 → Option β) → Option β := fun (a1,a2,o0_0,o0_4,o0_5,o1,o2,o3) exit => (bindO (fnDq45 (o0_0,o0_4,o0_5,o1,o2,o3)) (unP fun r_0_0 => unP fun r_0_1 => unP fun r_1 => unP fun o0_4_2 o0_5_2 => (bindO (nodeDq42_n0 (a1,a2,r_1,r_1 == (0 : Int),o0_0,o0_4_2,o0_5_2,o1,o2,o3,r_0_0,r_0_1)) (Sum.elim (fun o6 => (exit (Sum.inl (r_0_0,r_0_1,r_1,o0_4_2,o0_5_2,o6)))) (fun _ => (exit (Sum.inr (r_0_0,r_0_1,r_1,o0_4_2,o0_5_2))))))))
def fnDq42 (a : Aq42) : Option Yq42 := fnq42 a some
theorem fnq42_nat (a : Aq42) (k : Yq42 → Ans) : fnq42 a k = bindO (fnDq42 a) k := by
  obtain ⟨a1,a2,o0_0,o0_4,o0_5,o1,o2,o3⟩ := a
  simp only [fnDq42,fnq42,bindO_cond,bindO_assoc,bindO_none,bindO_pure,bindO_elim,bindO_unP,bindO_empty]
def argsq42 : Aq42 → List AV × List AE.Obj := fun (a1,a2,o0_0,o0_4,o0_5,o1,o2,o3) => ([.ptr 0 0,.int .i64 a1,.str a2],[.cells [.ro (.int .i64) o0_0,.own 1,.own 2,.own 3,.int .i64 o0_4,.int .i64 o0_5],.arr (.int .i64) o1,.arr (.st (.pair (.int .i64) (.int .i64))) o2,.arr (.st (.pair (.int .i64) .str)) o3])
def decPAq42 (l : List AV) (H : List AE.Obj) : Option {a : Aq42 // (l,H) = argsq42 a} := match l,H with
  | [.ptr 0 0,.int .i64 a1,.str a2],[.cells [.ro (.int .i64) o0_0,.own 1,.own 2,.own 3,.int .i64 o0_4,.int .i64 o0_5],.arr (.int .i64) o1,.arr (.st (.pair (.int .i64) (.int .i64))) o2,.arr (.st (.pair (.int .i64) .str)) o3] => some ⟨(a1,a2,o0_0,o0_4,o0_5,o1,o2,o3),rfl⟩
  | _,_ => none
def decAq42 (l : List AV) (H : List AE.Obj) : Option Aq42 := pk (decPAq42 l H)
theorem decAq42_ok (l : List AV) (H : List AE.Obj) (a : Aq42) (h : decAq42 l H = some a) : (l,H) = argsq42 a := pk_ok (o := decPAq42 l H) h
def outq42 : Aq42 → (AV → List AE.Obj → Ans) → Yq42 → Ans := fun (a1,a2,o0_0,o0_4,o0_5,o1,o2,o3) K => (Sum.elim (unP fun r_0_0_y => unP fun r_0_1_y => unP fun r_1_y => unP fun o0_4_y => unP fun o0_5_y o4_y => K (.tup [.agg [.int .i64 r_0_0_y,.int .i64 r_0_1_y],.int .i64 r_1_y]) [.cells [.ro (.int .i64) o0_0,.own 1,.own 2,.own 4,.int .i64 o0_4_y,.int .i64 o0_5_y],.arr (.int .i64) o1,.arr (.st (.pair (.int .i64) (.int .i64))) o2,.arr (.st (.pair (.int .i64) .str)) o3,.arr (.st (.pair (.int .i64) .str)) o4_y]) (unP fun r_0_0_y => unP fun r_0_1_y => unP fun r_1_y => unP fun o0_4_y o0_5_y => K (.tup [.agg [.int .i64 r_0_0_y,.int .i64 r_0_1_y],.int .i64 r_1_y]) [.cells [.ro (.int .i64) o0_0,.own 1,.own 2,.own 3,.int .i64 o0_4_y,.int .i64 o0_5_y],.arr (.int .i64) o1,.arr (.st (.pair (.int .i64) (.int .i64))) o2,.arr (.st (.pair (.int .i64) .str)) o3]))
theorem fnq42_ok (a : Aq42) (K : AV → List AE.Obj → Ans) : fnE Try.tab envq42 noHint 0 70 42 Try.f42.ntmps Try.f42.results.toList annq42 bq42 (argsq42 a).1 (argsq42 a).2 K = fnq42 a (outq42 a K) := by kernel_rfl
def vFq42 (a : Aq42) (K : AV → List AE.Obj → Ans) : Ans := bindO (fnDq42 a) fun y => outq42 a K y
def Fq42 : List AV → List AE.Obj → (AV → List AE.Obj → Ans) → Ans := fun l H K => bindO (decAq42 l H) fun a => vFq42 a K
theorem Fq42_ok : FuncOk Try.prog 42 Fq42 := func_mkD (hint := noHint) (d := 0) (n := 70) mixed tabOk envq42Ok Try.func42 (bodySome (by kernel_rfl)) (by decide +kernel) annq42_ok decAq42_ok fnq42_ok fnq42_nat
end Go.Proofs.R8

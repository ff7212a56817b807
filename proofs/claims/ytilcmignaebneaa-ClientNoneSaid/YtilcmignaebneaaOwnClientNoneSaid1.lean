/- What the functions that ClientNoneSaid reaches compute: part 1. -/
import Derived.Test.YtilcmignaebneaaAe3
import Derived.Test.YtilcmignaebneaaProg
import Derived.Test.YtilcmignaebneaaChecked
import Derived.Eval
set_option linter.unusedVariables false
set_option linter.unusedSimpArgs false
namespace Go.Proofs
instance Try.bt : Go.AE.BT := ⟨5, 1000000000, [(27, "Events", 39), (27, "Flush", 40), (27, "Read", 41), (27, "Write", 42), (32, "Flush", 10), (32, "Read", 20), (32, "Write", 9)]⟩
def Try.tab : Go.AE.Tab := [
  (1, ⟨.sc, 1, 8, [.nilf], none⟩),
  (2, ⟨.sc, 1, 8, [.int .i64 0], some (.int .i64)⟩),
  (3, ⟨.sc, 1, 8, [.int .i64 0], some (.int .i64)⟩),
  (4, ⟨.sc, 1, 1, [.bool false], some .bool⟩),
  (5, ⟨.sc, 1, 1, [.int .u8 0], some (.int .u8)⟩),
  (7, ⟨.struct [(2, 0), (3, 1), (4, 2), (6, 3)], 4, 24, [.int .i64 0, .int .i64 0, .bool false, .int .u8 0], some (.st (.pair (.int .i64) (.pair (.int .i64) (.pair .bool (.int .u8)))))⟩),
  (9, ⟨.sc, 1, 16, [.str []], some .str⟩),
  (12, ⟨.sc, 1, 8, [.int .u64 0], some (.int .u64)⟩),
  (20, ⟨.sc, 1, 16, [.nili], none⟩),
  (21, ⟨.sc, 1, 4, [.int .i32 0], some (.int .i32)⟩),
  (22, ⟨.slice 39, 1, 24, [.nils], some (.list (.st (.pair (.int .i64) (.pair (.int .i64) (.pair .str (.pair (.int .i64) (.pair (.int .i64) (.pair (.int .i64) (.pair (.pair (.int .i64) (.pair (.int .i64) (.pair (.int .i64) .str))) (.list (.int .i64)))))))))))⟩),
  (23, ⟨.slice 40, 1, 24, [.nils], some (.list (.int .i64))⟩),
  (24, ⟨.slice 3, 1, 24, [.nils], some (.list (.int .i64))⟩),
  (25, ⟨.sc, 1, 8, [.nilf], none⟩),
  (26, ⟨.sc, 1, 8, [.nilf], none⟩),
  (27, ⟨.ptr 31, 1, 8, [.nilp], none⟩),
  (28, ⟨.slice 54, 1, 24, [.nils], some (.list (.st (.pair (.int .i64) (.int .i64))))⟩),
  (29, ⟨.slice 71, 1, 24, [.nils], some (.list (.st (.pair (.int .i64) .str)))⟩),
  (30, ⟨.struct [(23, 0), (24, 1), (28, 2), (29, 3), (3, 4), (3, 5)], 6, 112, [.nils, .nils, .nils, .nils, .int .i64 0, .int .i64 0], some (.st (.pair (.list (.int .i64)) (.pair (.list (.int .i64)) (.pair (.list (.st (.pair (.int .i64) (.int .i64)))) (.pair (.list (.st (.pair (.int .i64) .str))) (.pair (.int .i64) (.int .i64)))))))⟩),
  (31, ⟨.struct [(23, 0), (24, 1), (28, 2), (29, 3), (3, 4), (3, 5)], 6, 112, [.nils, .nils, .nils, .nils, .int .i64 0, .int .i64 0], some (.st (.pair (.list (.int .i64)) (.pair (.list (.int .i64)) (.pair (.list (.st (.pair (.int .i64) (.int .i64)))) (.pair (.list (.st (.pair (.int .i64) .str))) (.pair (.int .i64) (.int .i64)))))))⟩),
  (32, ⟨.ptr 67, 1, 8, [.nilp], none⟩),
  (33, ⟨.sc, 1, 8, [.nilf], none⟩),
  (34, ⟨.struct [(3, 0), (3, 1), (3, 2), (9, 3)], 4, 40, [.int .i64 0, .int .i64 0, .int .i64 0, .str []], some (.st (.pair (.int .i64) (.pair (.int .i64) (.pair (.int .i64) .str))))⟩),
  (35, ⟨.struct [(3, 0), (3, 1), (3, 2), (9, 3)], 4, 40, [.int .i64 0, .int .i64 0, .int .i64 0, .str []], some (.st (.pair (.int .i64) (.pair (.int .i64) (.pair (.int .i64) .str))))⟩),
  (36, ⟨.struct [(3, 0), (3, 1), (3, 2), (35, 3), (24, 7)], 8, 88, [.int .i64 0, .int .i64 0, .int .i64 0, .int .i64 0, .int .i64 0, .int .i64 0, .str [], .nils], some (.st (.pair (.int .i64) (.pair (.int .i64) (.pair (.int .i64) (.pair (.pair (.int .i64) (.pair (.int .i64) (.pair (.int .i64) .str))) (.list (.int .i64)))))))⟩),
  (37, ⟨.struct [(3, 0), (3, 1), (3, 2), (35, 3), (24, 7)], 8, 88, [.int .i64 0, .int .i64 0, .int .i64 0, .int .i64 0, .int .i64 0, .int .i64 0, .str [], .nils], some (.st (.pair (.int .i64) (.pair (.int .i64) (.pair (.int .i64) (.pair (.pair (.int .i64) (.pair (.int .i64) (.pair (.int .i64) .str))) (.list (.int .i64)))))))⟩),
  (38, ⟨.struct [(3, 0), (3, 1), (9, 2), (37, 3)], 11, 120, [.int .i64 0, .int .i64 0, .str [], .int .i64 0, .int .i64 0, .int .i64 0, .int .i64 0, .int .i64 0, .int .i64 0, .str [], .nils], some (.st (.pair (.int .i64) (.pair (.int .i64) (.pair .str (.pair (.int .i64) (.pair (.int .i64) (.pair (.int .i64) (.pair (.pair (.int .i64) (.pair (.int .i64) (.pair (.int .i64) .str))) (.list (.int .i64))))))))))⟩),
  (39, ⟨.struct [(3, 0), (3, 1), (9, 2), (37, 3)], 11, 120, [.int .i64 0, .int .i64 0, .str [], .int .i64 0, .int .i64 0, .int .i64 0, .int .i64 0, .int .i64 0, .int .i64 0, .str [], .nils], some (.st (.pair (.int .i64) (.pair (.int .i64) (.pair .str (.pair (.int .i64) (.pair (.int .i64) (.pair (.int .i64) (.pair (.pair (.int .i64) (.pair (.int .i64) (.pair (.int .i64) .str))) (.list (.int .i64))))))))))⟩),
  (40, ⟨.sc, 1, 8, [.int .i64 0], some (.int .i64)⟩),
  (41, ⟨.sc, 1, 8, [.nilf], none⟩),
  (43, ⟨.sc, 1, 8, [.nilf], none⟩),
  (44, ⟨.sc, 1, 8, [.nilf], none⟩),
  (45, ⟨.sc, 1, 8, [.nilf], none⟩),
  (46, ⟨.sc, 1, 8, [.nilf], none⟩),
  (47, ⟨.sc, 1, 8, [.nilf], none⟩),
  (48, ⟨.sc, 1, 8, [.nilf], none⟩),
  (49, ⟨.ptr 52, 1, 8, [.nilp], none⟩),
  (50, ⟨.slice 76, 1, 24, [.nils], some (.list (.st (.pair (.int .i64) (.int .i64))))⟩),
  (51, ⟨.struct [(29, 0), (50, 1)], 2, 48, [.nils, .nils], some (.st (.pair (.list (.st (.pair (.int .i64) .str))) (.list (.st (.pair (.int .i64) (.int .i64))))))⟩),
  (52, ⟨.struct [(29, 0), (50, 1)], 2, 48, [.nils, .nils], some (.st (.pair (.list (.st (.pair (.int .i64) .str))) (.list (.st (.pair (.int .i64) (.int .i64))))))⟩),
  (53, ⟨.struct [(3, 0), (3, 1)], 2, 16, [.int .i64 0, .int .i64 0], some (.st (.pair (.int .i64) (.int .i64)))⟩),
  (54, ⟨.struct [(3, 0), (3, 1)], 2, 16, [.int .i64 0, .int .i64 0], some (.st (.pair (.int .i64) (.int .i64)))⟩),
  (56, ⟨.sc, 1, 8, [.nilf], none⟩),
  (57, ⟨.sc, 1, 8, [.nilf], none⟩),
  (58, ⟨.sc, 1, 8, [.nilf], none⟩),
  (60, ⟨.sc, 1, 8, [.nilf], none⟩),
  (61, ⟨.sc, 1, 8, [.nilf], none⟩),
  (62, ⟨.sc, 1, 16, [.nili], none⟩),
  (63, ⟨.sc, 1, 16, [.nili], none⟩),
  (64, ⟨.array 2 63, 2, 32, [.nili, .nili], none⟩),
  (65, ⟨.slice 74, 1, 24, [.nils], some (.list (.st (.pair (.int .i64) (.int .i64))))⟩),
  (66, ⟨.struct [(64, 0), (3, 2), (29, 3), (65, 4)], 5, 88, [.nili, .nili, .int .i64 0, .nils, .nils], none⟩),
  (67, ⟨.struct [(64, 0), (3, 2), (29, 3), (65, 4)], 5, 88, [.nili, .nili, .int .i64 0, .nils, .nils], none⟩),
  (68, ⟨.sc, 1, 8, [.nilf], none⟩),
  (69, ⟨.sc, 1, 8, [.nilf], none⟩),
  (70, ⟨.struct [(3, 0), (9, 1)], 2, 24, [.int .i64 0, .str []], some (.st (.pair (.int .i64) .str))⟩),
  (71, ⟨.struct [(3, 0), (9, 1)], 2, 24, [.int .i64 0, .str []], some (.st (.pair (.int .i64) .str))⟩),
  (72, ⟨.sc, 1, 8, [.nilf], none⟩),
  (73, ⟨.struct [(3, 0), (3, 1)], 2, 16, [.int .i64 0, .int .i64 0], some (.st (.pair (.int .i64) (.int .i64)))⟩),
  (74, ⟨.struct [(3, 0), (3, 1)], 2, 16, [.int .i64 0, .int .i64 0], some (.st (.pair (.int .i64) (.int .i64)))⟩),
  (75, ⟨.struct [(3, 0), (3, 1)], 2, 16, [.int .i64 0, .int .i64 0], some (.st (.pair (.int .i64) (.int .i64)))⟩),
  (76, ⟨.struct [(3, 0), (3, 1)], 2, 16, [.int .i64 0, .int .i64 0], some (.st (.pair (.int .i64) (.int .i64)))⟩),
  (77, ⟨.sc, 1, 8, [.nilf], none⟩),
  (78, ⟨.sc, 1, 8, [.nilf], none⟩),
  (84, ⟨.sc, 1, 4, [.int .u32 0], some (.int .u32)⟩),
  (87, ⟨.sc, 1, 8, [.nilf], none⟩),
  (88, ⟨.ptr 5, 1, 8, [.nilp], none⟩)]
end Go.Proofs
namespace Go.Proofs.R8
open Go Go.AE
theorem tabOk : TabOk Try.prog Try.tab := tabOk_of_check (by kernel_rfl)
theorem mixed : Try.prog.follows .mixedOrders = true := Checked.mixed Try.checked
end Go.Proofs.R8
namespace Go.Proofs.R8
open Go Go.AE
set_option maxRecDepth 100000
--@ client_New
noncomputable def envq23 : Env := []
theorem envq23Ok : EnvOk Try.prog envq23 := EnvOk.nil
noncomputable def bq23 : Code := Try.f8.body.getD .skip
noncomputable def annq23 : Ann := .none
theorem annq23_ok : AnnOk Try.prog 10 bq23 annq23 := (annOk_none _ _ _)
abbrev Aq23 := (Int) × (Int) × (Int) × (Int) × (List Int) × (List Int) × (List (Int × Int)) × (List (Int × List UInt8)) × (List Int) × (List Int) × (List (Int × Int)) × (List (Int × List UInt8))
abbrev Yq23 := Unit
def fnq23 {β : Type} : Aq23 → (Yq23 → Option β) → Option β := fun (o0_4,o0_5,o1_4,o1_5,o2,o3,o4,o5,o6,o7,o8,o9) exit => (exit ())
def fnDq23 (a : Aq23) : Option Yq23 := fnq23 a some
theorem fnq23_nat (a : Aq23) (k : Yq23 → Ans) : fnq23 a k = bindO (fnDq23 a) k := by
  obtain ⟨o0_4,o0_5,o1_4,o1_5,o2,o3,o4,o5,o6,o7,o8,o9⟩ := a
  simp only [fnDq23,fnq23,bindO_cond,bindO_assoc,bindO_none,bindO_pure,bindO_elim,bindO_unP,bindO_empty]
def argsq23 : Aq23 → List AV × List AE.Obj := fun (o0_4,o0_5,o1_4,o1_5,o2,o3,o4,o5,o6,o7,o8,o9) => ([.ifc 27 (.ptr 0 0),.ifc 27 (.ptr 1 0)],[.cells [.own 2,.own 3,.own 4,.own 5,.int .i64 o0_4,.int .i64 o0_5],.cells [.own 6,.own 7,.own 8,.own 9,.int .i64 o1_4,.int .i64 o1_5],.arr (.int .i64) o2,.arr (.int .i64) o3,.arr (.st (.pair (.int .i64) (.int .i64))) o4,.arr (.st (.pair (.int .i64) .str)) o5,.arr (.int .i64) o6,.arr (.int .i64) o7,.arr (.st (.pair (.int .i64) (.int .i64))) o8,.arr (.st (.pair (.int .i64) .str)) o9])
def decPAq23 (l : List AV) (H : List AE.Obj) : Option {a : Aq23 // (l,H) = argsq23 a} := match l,H with
  | [.ifc 27 (.ptr 0 0),.ifc 27 (.ptr 1 0)],[.cells [.own 2,.own 3,.own 4,.own 5,.int .i64 o0_4,.int .i64 o0_5],.cells [.own 6,.own 7,.own 8,.own 9,.int .i64 o1_4,.int .i64 o1_5],.arr (.int .i64) o2,.arr (.int .i64) o3,.arr (.st (.pair (.int .i64) (.int .i64))) o4,.arr (.st (.pair (.int .i64) .str)) o5,.arr (.int .i64) o6,.arr (.int .i64) o7,.arr (.st (.pair (.int .i64) (.int .i64))) o8,.arr (.st (.pair (.int .i64) .str)) o9] => some ⟨(o0_4,o0_5,o1_4,o1_5,o2,o3,o4,o5,o6,o7,o8,o9),rfl⟩
  | _,_ => none
def decAq23 (l : List AV) (H : List AE.Obj) : Option Aq23 := pk (decPAq23 l H)
theorem decAq23_ok (l : List AV) (H : List AE.Obj) (a : Aq23) (h : decAq23 l H = some a) : (l,H) = argsq23 a := pk_ok (o := decPAq23 l H) h
def outq23 : Aq23 → (AV → List AE.Obj → Ans) → Yq23 → Ans := fun (o0_4,o0_5,o1_4,o1_5,o2,o3,o4,o5,o6,o7,o8,o9) K => fun _ => K (.ptr 10 0) [.cells [.own 2,.own 3,.own 4,.own 5,.int .i64 o0_4,.int .i64 o0_5],.cells [.own 6,.own 7,.own 8,.own 9,.int .i64 o1_4,.int .i64 o1_5],.arr (.int .i64) o2,.arr (.int .i64) o3,.arr (.st (.pair (.int .i64) (.int .i64))) o4,.arr (.st (.pair (.int .i64) .str)) o5,.arr (.int .i64) o6,.arr (.int .i64) o7,.arr (.st (.pair (.int .i64) (.int .i64))) o8,.arr (.st (.pair (.int .i64) .str)) o9,.cells [.ifc 27 (.ptr 0 0),.ifc 27 (.ptr 1 0),.int .i64 (0),.own 11,.own 12],.arr (.st (.pair (.int .i64) .str)) ([]),.arr (.st (.pair (.int .i64) (.int .i64))) ([])]
theorem fnq23_ok (a : Aq23) (K : AV → List AE.Obj → Ans) : fnE Try.tab envq23 noHint 0 70 8 Try.f8.ntmps Try.f8.results.toList annq23 bq23 (argsq23 a).1 (argsq23 a).2 K = fnq23 a (outq23 a K) := by kernel_rfl
def vFq23 (a : Aq23) (K : AV → List AE.Obj → Ans) : Ans := bindO (fnDq23 a) fun y => outq23 a K y
def Fq23 : List AV → List AE.Obj → (AV → List AE.Obj → Ans) → Ans := fun l H K => bindO (decAq23 l H) fun a => vFq23 a K
theorem Fq23_ok : FuncOk Try.prog 8 Fq23 := func_mkD (hint := noHint) (d := 0) (n := 70) mixed tabOk envq23Ok Try.func8 (bodySome (by kernel_rfl)) (by decide +kernel) annq23_ok decAq23_ok fnq23_ok fnq23_nat
--@ client_Client_server
noncomputable def envq20 : Env := []
theorem envq20Ok : EnvOk Try.prog envq20 := EnvOk.nil
noncomputable def bq20 : Code := Try.f21.body.getD .skip
noncomputable def annq20 : Ann := .none
theorem annq20_ok : AnnOk Try.prog 14 bq20 annq20 := (annOk_none _ _ _)
abbrev Aq20 := (Int) × (Int) × (Int) × (Int) × (Int) × (List (Int × List UInt8)) × (List (Int × Int)) × (List Int) × (List Int) × (List (Int × Int)) × (List (Int × List UInt8)) × (List Int) × (List Int) × (List (Int × Int)) × (List (Int × List UInt8))
abbrev Yq20 := (Unit) ⊕ (Unit)
def fnq20 {β : Type} : Aq20 → (Yq20 → Option β) → Option β := fun (o0_2,o1_4,o1_5,o2_4,o2_5,o3,o4,o5,o6,o7,o8,o9,o10,o11,o12) exit => (bif o0_2 == (0 : Int) then (exit (Sum.inl ())) else (bif o0_2 == (1 : Int) then (exit (Sum.inr ())) else none))
def fnDq20 (a : Aq20) : Option Yq20 := fnq20 a some
theorem fnq20_nat (a : Aq20) (k : Yq20 → Ans) : fnq20 a k = bindO (fnDq20 a) k := by
  obtain ⟨o0_2,o1_4,o1_5,o2_4,o2_5,o3,o4,o5,o6,o7,o8,o9,o10,o11,o12⟩ := a
  simp only [fnDq20,fnq20,bindO_cond,bindO_assoc,bindO_none,bindO_pure,bindO_elim,bindO_unP,bindO_empty]
def argsq20 : Aq20 → List AV × List AE.Obj := fun (o0_2,o1_4,o1_5,o2_4,o2_5,o3,o4,o5,o6,o7,o8,o9,o10,o11,o12) => ([.ptr 0 0],[.cells [.ifc 27 (.ptr 1 0),.ifc 27 (.ptr 2 0),.int .i64 o0_2,.own 3,.own 4],.cells [.own 5,.own 6,.own 7,.own 8,.int .i64 o1_4,.int .i64 o1_5],.cells [.own 9,.own 10,.own 11,.own 12,.int .i64 o2_4,.int .i64 o2_5],.arr (.st (.pair (.int .i64) .str)) o3,.arr (.st (.pair (.int .i64) (.int .i64))) o4,.arr (.int .i64) o5,.arr (.int .i64) o6,.arr (.st (.pair (.int .i64) (.int .i64))) o7,.arr (.st (.pair (.int .i64) .str)) o8,.arr (.int .i64) o9,.arr (.int .i64) o10,.arr (.st (.pair (.int .i64) (.int .i64))) o11,.arr (.st (.pair (.int .i64) .str)) o12])
def decPAq20 (l : List AV) (H : List AE.Obj) : Option {a : Aq20 // (l,H) = argsq20 a} := match l,H with
  | [.ptr 0 0],[.cells [.ifc 27 (.ptr 1 0),.ifc 27 (.ptr 2 0),.int .i64 o0_2,.own 3,.own 4],.cells [.own 5,.own 6,.own 7,.own 8,.int .i64 o1_4,.int .i64 o1_5],.cells [.own 9,.own 10,.own 11,.own 12,.int .i64 o2_4,.int .i64 o2_5],.arr (.st (.pair (.int .i64) .str)) o3,.arr (.st (.pair (.int .i64) (.int .i64))) o4,.arr (.int .i64) o5,.arr (.int .i64) o6,.arr (.st (.pair (.int .i64) (.int .i64))) o7,.arr (.st (.pair (.int .i64) .str)) o8,.arr (.int .i64) o9,.arr (.int .i64) o10,.arr (.st (.pair (.int .i64) (.int .i64))) o11,.arr (.st (.pair (.int .i64) .str)) o12] => some ⟨(o0_2,o1_4,o1_5,o2_4,o2_5,o3,o4,o5,o6,o7,o8,o9,o10,o11,o12),rfl⟩
  | _,_ => none
def decAq20 (l : List AV) (H : List AE.Obj) : Option Aq20 := pk (decPAq20 l H)
theorem decAq20_ok (l : List AV) (H : List AE.Obj) (a : Aq20) (h : decAq20 l H = some a) : (l,H) = argsq20 a := pk_ok (o := decPAq20 l H) h
def outq20 : Aq20 → (AV → List AE.Obj → Ans) → Yq20 → Ans := fun (o0_2,o1_4,o1_5,o2_4,o2_5,o3,o4,o5,o6,o7,o8,o9,o10,o11,o12) K => (Sum.elim (fun _ => K (.ifc 27 (.ptr 1 0)) [.cells [.ifc 27 (.ptr 1 0),.ifc 27 (.ptr 2 0),.int .i64 o0_2,.own 3,.own 4],.cells [.own 5,.own 6,.own 7,.own 8,.int .i64 o1_4,.int .i64 o1_5],.cells [.own 9,.own 10,.own 11,.own 12,.int .i64 o2_4,.int .i64 o2_5],.arr (.st (.pair (.int .i64) .str)) o3,.arr (.st (.pair (.int .i64) (.int .i64))) o4,.arr (.int .i64) o5,.arr (.int .i64) o6,.arr (.st (.pair (.int .i64) (.int .i64))) o7,.arr (.st (.pair (.int .i64) .str)) o8,.arr (.int .i64) o9,.arr (.int .i64) o10,.arr (.st (.pair (.int .i64) (.int .i64))) o11,.arr (.st (.pair (.int .i64) .str)) o12]) (fun _ => K (.ifc 27 (.ptr 2 0)) [.cells [.ifc 27 (.ptr 1 0),.ifc 27 (.ptr 2 0),.int .i64 o0_2,.own 3,.own 4],.cells [.own 5,.own 6,.own 7,.own 8,.int .i64 o1_4,.int .i64 o1_5],.cells [.own 9,.own 10,.own 11,.own 12,.int .i64 o2_4,.int .i64 o2_5],.arr (.st (.pair (.int .i64) .str)) o3,.arr (.st (.pair (.int .i64) (.int .i64))) o4,.arr (.int .i64) o5,.arr (.int .i64) o6,.arr (.st (.pair (.int .i64) (.int .i64))) o7,.arr (.st (.pair (.int .i64) .str)) o8,.arr (.int .i64) o9,.arr (.int .i64) o10,.arr (.st (.pair (.int .i64) (.int .i64))) o11,.arr (.st (.pair (.int .i64) .str)) o12]))
theorem fnq20_ok (a : Aq20) (K : AV → List AE.Obj → Ans) : fnE Try.tab envq20 noHint 0 70 21 Try.f21.ntmps Try.f21.results.toList annq20 bq20 (argsq20 a).1 (argsq20 a).2 K = fnq20 a (outq20 a K) := by kernel_rfl
def vFq20 (a : Aq20) (K : AV → List AE.Obj → Ans) : Ans := bindO (fnDq20 a) fun y => outq20 a K y
def Fq20 : List AV → List AE.Obj → (AV → List AE.Obj → Ans) → Ans := fun l H K => bindO (decAq20 l H) fun a => vFq20 a K
theorem Fq20_ok : FuncOk Try.prog 21 Fq20 := func_mkD (hint := noHint) (d := 0) (n := 70) mixed tabOk envq20Ok Try.func21 (bodySome (by kernel_rfl)) (by decide +kernel) annq20_ok decAq20_ok fnq20_ok fnq20_nat
--@ law44_Tape_next
noncomputable def envq29 : Env := []
theorem envq29Ok : EnvOk Try.prog envq29 := EnvOk.nil
noncomputable def bq29 : Code := Try.f15.body.getD .skip
noncomputable def Lq29_n1 : Code := codeAt [1,1,1,1,1,1,1,0,1] bq29
noncomputable def annLq29_n1 : Ann := .none
theorem annLq29_n1_ok : AnnOk Try.prog 73 Lq29_n1 annLq29_n1 := (annOk_none _ _ _)
abbrev Iq29_n1 := (Bool) × (Int) × (Int) × (List Int) × (List Int) × (List (Int × Int)) × (List (Int × List UInt8)) × (Int)
abbrev Yq29_n1 := (Int)
def Sq29_n1 : Iq29_n1 → St := fun (t59,o0_4,o0_5,o1,o2,o3,o4,o6_0) => { env := [(0,.ptr 0 0),(2,.ptr 5 0),(5,.ptr 6 0),(59,.bool t59)],stk := [[(0,.ptr 0 0)]],H := [.cells [.own 1,.own 2,.own 3,.own 4,.int .i64 o0_4,.int .i64 o0_5],.arr (.int .i64) o1,.arr (.int .i64) o2,.arr (.st (.pair (.int .i64) (.int .i64))) o3,.arr (.st (.pair (.int .i64) .str)) o4,.cells [.int .i64 (0),.int .i64 (0)],.cells [.int .i64 o6_0,.int .i64 (0)]],blk := 61440 }
def decPq29_n1 (s : St) : Option {x : Iq29_n1 // s = Sq29_n1 x} := match s with
  | { env := [(0,.ptr 0 0),(2,.ptr 5 0),(5,.ptr 6 0),(59,.bool t59)],stk := [[(0,.ptr 0 0)]],H := [.cells [.own 1,.own 2,.own 3,.own 4,.int .i64 o0_4,.int .i64 o0_5],.arr (.int .i64) o1,.arr (.int .i64) o2,.arr (.st (.pair (.int .i64) (.int .i64))) o3,.arr (.st (.pair (.int .i64) .str)) o4,.cells [.int .i64 r7,.int .i64 r8],.cells [.int .i64 o6_0,.int .i64 r10]],blk := 61440 } => if h7 : r7 = 0 then if h8 : r8 = 0 then if h10 : r10 = 0 then some ⟨(t59,o0_4,o0_5,o1,o2,o3,o4,o6_0),by subst h7 h8 h10; rfl⟩ else none else none else none
  | _ => none
def decq29_n1 (s : St) : Option Iq29_n1 := pk (decPq29_n1 s)
theorem decq29_n1_ok (s : St) (x : Iq29_n1) (h : decq29_n1 s = some x) : s = Sq29_n1 x := pk_ok (o := decPq29_n1 s) h
def outq29_n1 : Iq29_n1 → (Ex → St → Ans) → Yq29_n1 → Ans := fun (t59,o0_4,o0_5,o1,o2,o3,o4,o6_0) K => fun o6_1_y => K (Ex.norm) { env := [(2,.ptr 5 0),(5,.ptr 6 0)],stk := [[(0,.ptr 0 0)]],H := [.cells [.own 1,.own 2,.own 3,.own 4,.int .i64 o0_4,.int .i64 o0_5],.arr (.int .i64) o1,.arr (.int .i64) o2,.arr (.st (.pair (.int .i64) (.int .i64))) o3,.arr (.st (.pair (.int .i64) .str)) o4,.cells [.int .i64 (0),.int .i64 (0)],.cells [.int .i64 o6_0,.int .i64 o6_1_y]],blk := 61440 }
def nodeq29_n1 {β : Type} : Iq29_n1 → (Yq29_n1 → Option β) → Option β := fun (t59,o0_4,o0_5,o1,o2,o3,o4,o6_0) exit => (bif t59 then (bif inR (IntKind.wrap .i64 (o0_5 - (1 : Int))) (List.length o2) then (bindO (o2[Int.toNat (IntKind.wrap .i64 (o0_5 - (1 : Int)))]?) fun x => (exit (x))) else none) else (exit ((0 : Int))))
def nodeDq29_n1 (i : Iq29_n1) : Option Yq29_n1 := nodeq29_n1 i some
theorem nodeq29_n1_nat (i : Iq29_n1) (k : Yq29_n1 → Ans) : nodeq29_n1 i k = bindO (nodeDq29_n1 i) k := by
  obtain ⟨t59,o0_4,o0_5,o1,o2,o3,o4,o6_0⟩ := i
  simp only [nodeDq29_n1,nodeq29_n1,bindO_cond,bindO_assoc,bindO_none,bindO_pure,bindO_elim,bindO_unP,bindO_empty]
theorem nodeq29_n1_ok (i : Iq29_n1) (K : Ex → St → Ans) : codeI Try.tab envq29 noHint (codeD Try.tab envq29 noHint 0 64) 70 73 annLq29_n1 Lq29_n1 (weakP 5 (exk [2,5] [2,3] []) K) (Sq29_n1 i) = nodeq29_n1 i (outq29_n1 i K) := by kernel_rfl
theorem GNq29_n1_ok : CSum Try.prog 73 Lq29_n1 (sumN decq29_n1 nodeDq29_n1 outq29_n1) := csum_node mixed tabOk envq29Ok 5 (exk [2,5] [2,3] []) annLq29_n1_ok decq29_n1_ok nodeq29_n1_ok nodeq29_n1_nat
noncomputable def Gq29_n1 : (Ex → St → Ans) → St → Ans := (sumN decq29_n1 nodeDq29_n1 outq29_n1)
theorem Gq29_n1_ok : CSum Try.prog 73 Lq29_n1 Gq29_n1 := GNq29_n1_ok
noncomputable def Lq29_n0 : Code := codeAt [1,1,1,0,1] bq29
noncomputable def annLq29_n0 : Ann := .none
theorem annLq29_n0_ok : AnnOk Try.prog 73 Lq29_n0 annLq29_n0 := (annOk_none _ _ _)
abbrev Iq29_n0 := (Bool) × (Int) × (Int) × (List Int) × (List Int) × (List (Int × Int)) × (List (Int × List UInt8))
abbrev Yq29_n0 := (Int)
def Sq29_n0 : Iq29_n0 → St := fun (t22,o0_4,o0_5,o1,o2,o3,o4) => { env := [(0,.ptr 0 0),(2,.ptr 5 0),(4,.int .i64 (0)),(22,.bool t22)],stk := [[(0,.ptr 0 0)]],H := [.cells [.own 1,.own 2,.own 3,.own 4,.int .i64 o0_4,.int .i64 o0_5],.arr (.int .i64) o1,.arr (.int .i64) o2,.arr (.st (.pair (.int .i64) (.int .i64))) o3,.arr (.st (.pair (.int .i64) .str)) o4,.cells [.int .i64 (0),.int .i64 (0)]],blk := 61440 }
def decPq29_n0 (s : St) : Option {x : Iq29_n0 // s = Sq29_n0 x} := match s with
  | { env := [(0,.ptr 0 0),(2,.ptr 5 0),(4,.int .i64 r0),(22,.bool t22)],stk := [[(0,.ptr 0 0)]],H := [.cells [.own 1,.own 2,.own 3,.own 4,.int .i64 o0_4,.int .i64 o0_5],.arr (.int .i64) o1,.arr (.int .i64) o2,.arr (.st (.pair (.int .i64) (.int .i64))) o3,.arr (.st (.pair (.int .i64) .str)) o4,.cells [.int .i64 r8,.int .i64 r9]],blk := 61440 } => if h0 : r0 = 0 then if h8 : r8 = 0 then if h9 : r9 = 0 then some ⟨(t22,o0_4,o0_5,o1,o2,o3,o4),by subst h0 h8 h9; rfl⟩ else none else none else none
  | _ => none
def decq29_n0 (s : St) : Option Iq29_n0 := pk (decPq29_n0 s)
theorem decq29_n0_ok (s : St) (x : Iq29_n0) (h : decq29_n0 s = some x) : s = Sq29_n0 x := pk_ok (o := decPq29_n0 s) h
def outq29_n0 : Iq29_n0 → (Ex → St → Ans) → Yq29_n0 → Ans := fun (t22,o0_4,o0_5,o1,o2,o3,o4) K => fun t4_y => K (Ex.norm) { env := [(0,.ptr 0 0),(2,.ptr 5 0),(4,.int .i64 t4_y)],stk := [[(0,.ptr 0 0)]],H := [.cells [.own 1,.own 2,.own 3,.own 4,.int .i64 o0_4,.int .i64 o0_5],.arr (.int .i64) o1,.arr (.int .i64) o2,.arr (.st (.pair (.int .i64) (.int .i64))) o3,.arr (.st (.pair (.int .i64) .str)) o4,.cells [.int .i64 (0),.int .i64 (0)]],blk := 61440 }
def nodeq29_n0 {β : Type} : Iq29_n0 → (Yq29_n0 → Option β) → Option β := fun (t22,o0_4,o0_5,o1,o2,o3,o4) exit => (bif t22 then (bif inR (IntKind.wrap .i64 (o0_4 - (1 : Int))) (List.length o1) then (bindO (o1[Int.toNat (IntKind.wrap .i64 (o0_4 - (1 : Int)))]?) fun x => (exit (x))) else none) else (exit ((0 : Int))))
def nodeDq29_n0 (i : Iq29_n0) : Option Yq29_n0 := nodeq29_n0 i some
theorem nodeq29_n0_nat (i : Iq29_n0) (k : Yq29_n0 → Ans) : nodeq29_n0 i k = bindO (nodeDq29_n0 i) k := by
  obtain ⟨t22,o0_4,o0_5,o1,o2,o3,o4⟩ := i
  simp only [nodeDq29_n0,nodeq29_n0,bindO_cond,bindO_assoc,bindO_none,bindO_pure,bindO_elim,bindO_unP,bindO_empty]
theorem nodeq29_n0_ok (i : Iq29_n0) (K : Ex → St → Ans) : codeI Try.tab envq29 noHint (codeD Try.tab envq29 noHint 0 64) 70 73 annLq29_n0 Lq29_n0 (weakP 5 (exk [0,2,4] [2,3] []) K) (Sq29_n0 i) = nodeq29_n0 i (outq29_n0 i K) := by kernel_rfl
theorem GNq29_n0_ok : CSum Try.prog 73 Lq29_n0 (sumN decq29_n0 nodeDq29_n0 outq29_n0) := csum_node mixed tabOk envq29Ok 5 (exk [0,2,4] [2,3] []) annLq29_n0_ok decq29_n0_ok nodeq29_n0_ok nodeq29_n0_nat
noncomputable def Gq29_n0 : (Ex → St → Ans) → St → Ans := (sumN decq29_n0 nodeDq29_n0 outq29_n0)
theorem Gq29_n0_ok : CSum Try.prog 73 Lq29_n0 Gq29_n0 := GNq29_n0_ok
noncomputable def annq29 : Ann := (.seq .none (.seq .none (.seq .none (.seq (.seq .none (.cut 5 [0,2,4,22] Gq29_n0)) (.seq .none (.seq .none (.seq .none (.seq (.seq .none (.cut 5 [0,2,5,59] Gq29_n1)) .none))))))))
theorem annq29_ok : AnnOk Try.prog 73 bq29 annq29 := ⟨(annOk_none _ _ _),⟨(annOk_none _ _ _),⟨(annOk_none _ _ _),⟨⟨(annOk_none _ _ _),Gq29_n0_ok⟩,⟨(annOk_none _ _ _),⟨(annOk_none _ _ _),⟨(annOk_none _ _ _),⟨⟨(annOk_none _ _ _),Gq29_n1_ok⟩,(annOk_none _ _ _)⟩⟩⟩⟩⟩⟩⟩⟩
abbrev Aq29 := (Int) × (Int) × (List Int) × (List Int) × (List (Int × Int)) × (List (Int × List UInt8))
abbrev Yq29 := (Int) × (Int) × (Int) × (Int) × (Int)
def fnq29 {β : Type} : Aq29 → (Yq29 → Option β) → Option β := fun (o0_4,o0_5,o1,o2,o3,o4) exit => (bindO (nodeDq29_n0 (decide (IntKind.wrap .i64 (o0_4 + (1 : Int)) ≤ (↑(List.length o1) : Int)),IntKind.wrap .i64 (o0_4 + (1 : Int)),o0_5,o1,o2,o3,o4)) fun t4 => (bif t4 != (0 : Int) then (exit ((0 : Int),(0 : Int),t4,IntKind.wrap .i64 (o0_4 + (1 : Int)),o0_5)) else (bindO (nodeDq29_n1 (decide (IntKind.wrap .i64 (o0_5 + (1 : Int)) ≤ (↑(List.length o2) : Int)),IntKind.wrap .i64 (o0_4 + (1 : Int)),IntKind.wrap .i64 (o0_5 + (1 : Int)),o1,o2,o3,o4,IntKind.wrap .i64 (o0_5 + (1 : Int)))) fun o6_1 => (exit (IntKind.wrap .i64 (o0_5 + (1 : Int)),o6_1,(0 : Int),IntKind.wrap .i64 (o0_4 + (1 : Int)),IntKind.wrap .i64 (o0_5 + (1 : Int)))))))
def fnDq29 (a : Aq29) : Option Yq29 := fnq29 a some
theorem fnq29_nat (a : Aq29) (k : Yq29 → Ans) : fnq29 a k = bindO (fnDq29 a) k := by
  obtain ⟨o0_4,o0_5,o1,o2,o3,o4⟩ := a
  simp only [fnDq29,fnq29,bindO_cond,bindO_assoc,bindO_none,bindO_pure,bindO_elim,bindO_unP,bindO_empty]
def argsq29 : Aq29 → List AV × List AE.Obj := fun (o0_4,o0_5,o1,o2,o3,o4) => ([.ptr 0 0],[.cells [.own 1,.own 2,.own 3,.own 4,.int .i64 o0_4,.int .i64 o0_5],.arr (.int .i64) o1,.arr (.int .i64) o2,.arr (.st (.pair (.int .i64) (.int .i64))) o3,.arr (.st (.pair (.int .i64) .str)) o4])
def decPAq29 (l : List AV) (H : List AE.Obj) : Option {a : Aq29 // (l,H) = argsq29 a} := match l,H with
  | [.ptr 0 0],[.cells [.own 1,.own 2,.own 3,.own 4,.int .i64 o0_4,.int .i64 o0_5],.arr (.int .i64) o1,.arr (.int .i64) o2,.arr (.st (.pair (.int .i64) (.int .i64))) o3,.arr (.st (.pair (.int .i64) .str)) o4] => some ⟨(o0_4,o0_5,o1,o2,o3,o4),rfl⟩
  | _,_ => none
def decAq29 (l : List AV) (H : List AE.Obj) : Option Aq29 := pk (decPAq29 l H)
theorem decAq29_ok (l : List AV) (H : List AE.Obj) (a : Aq29) (h : decAq29 l H = some a) : (l,H) = argsq29 a := pk_ok (o := decPAq29 l H) h
def outq29 : Aq29 → (AV → List AE.Obj → Ans) → Yq29 → Ans := fun (o0_4,o0_5,o1,o2,o3,o4) K => unP fun r_0_0_y => unP fun r_0_1_y => unP fun r_1_y => unP fun o0_4_y o0_5_y => K (.tup [.agg [.int .i64 r_0_0_y,.int .i64 r_0_1_y],.int .i64 r_1_y]) [.cells [.own 1,.own 2,.own 3,.own 4,.int .i64 o0_4_y,.int .i64 o0_5_y],.arr (.int .i64) o1,.arr (.int .i64) o2,.arr (.st (.pair (.int .i64) (.int .i64))) o3,.arr (.st (.pair (.int .i64) .str)) o4]
theorem fnq29_ok (a : Aq29) (K : AV → List AE.Obj → Ans) : fnE Try.tab envq29 noHint 0 70 15 Try.f15.ntmps Try.f15.results.toList annq29 bq29 (argsq29 a).1 (argsq29 a).2 K = fnq29 a (outq29 a K) := by kernel_rfl
def vFq29 (a : Aq29) (K : AV → List AE.Obj → Ans) : Ans := bindO (fnDq29 a) fun y => outq29 a K y
def Fq29 : List AV → List AE.Obj → (AV → List AE.Obj → Ans) → Ans := fun l H K => bindO (decAq29 l H) fun a => vFq29 a K
theorem Fq29_ok : FuncOk Try.prog 15 Fq29 := func_mkD (hint := noHint) (d := 0) (n := 70) mixed tabOk envq29Ok Try.func15 (bodySome (by kernel_rfl)) (by decide +kernel) annq29_ok decAq29_ok fnq29_ok fnq29_nat
--@ law44_Tape_Write
noncomputable def envq28 : Env := [(15,.func Fq29)]
theorem envq28Ok : EnvOk Try.prog envq28 := EnvOk.cons Fq29_ok (EnvOk.nil)
noncomputable def bq28 : Code := Try.f42.body.getD .skip
noncomputable def Lq28_n0 : Code := codeAt [1,1,0,1] bq28
noncomputable def annLq28_n0 : Ann := .none
theorem annLq28_n0_ok : AnnOk Try.prog 33 Lq28_n0 annLq28_n0 := (annOk_none _ _ _)
abbrev Iq28_n0 := (Int) × (List UInt8) × (Int) × (Bool) × (Int) × (Int) × (List Int) × (List Int) × (List (Int × Int)) × (List (Int × List UInt8)) × (Int) × (Int)
abbrev Yq28_n0 := ((List (Int × List UInt8))) ⊕ (Unit)
def Sq28_n0 : Iq28_n0 → St := fun (t1,t2,t9,t16,o0_4,o0_5,o1,o2,o3,o4,o6_0,o6_1) => { env := [(0,.ptr 0 0),(1,.int .i64 t1),(2,.str t2),(6,.ptr 5 0),(8,.ptr 6 0),(9,.int .i64 t9),(16,.bool t16)],stk := [[(0,.ptr 0 0)]],H := [.cells [.own 1,.own 2,.own 3,.own 4,.int .i64 o0_4,.int .i64 o0_5],.arr (.int .i64) o1,.arr (.int .i64) o2,.arr (.st (.pair (.int .i64) (.int .i64))) o3,.arr (.st (.pair (.int .i64) .str)) o4,.cells [.int .i64 (0),.int .i64 (0)],.cells [.int .i64 o6_0,.int .i64 o6_1]],blk := 172032 }
def decPq28_n0 (s : St) : Option {x : Iq28_n0 // s = Sq28_n0 x} := match s with
  | { env := [(0,.ptr 0 0),(1,.int .i64 t1),(2,.str t2),(6,.ptr 5 0),(8,.ptr 6 0),(9,.int .i64 t9),(16,.bool t16)],stk := [[(0,.ptr 0 0)]],H := [.cells [.own 1,.own 2,.own 3,.own 4,.int .i64 o0_4,.int .i64 o0_5],.arr (.int .i64) o1,.arr (.int .i64) o2,.arr (.st (.pair (.int .i64) (.int .i64))) o3,.arr (.st (.pair (.int .i64) .str)) o4,.cells [.int .i64 r10,.int .i64 r11],.cells [.int .i64 o6_0,.int .i64 o6_1]],blk := 172032 } => if h10 : r10 = 0 then if h11 : r11 = 0 then some ⟨(t1,t2,t9,t16,o0_4,o0_5,o1,o2,o3,o4,o6_0,o6_1),by subst h10 h11; rfl⟩ else none else none
  | _ => none
def decq28_n0 (s : St) : Option Iq28_n0 := pk (decPq28_n0 s)
theorem decq28_n0_ok (s : St) (x : Iq28_n0) (h : decq28_n0 s = some x) : s = Sq28_n0 x := pk_ok (o := decPq28_n0 s) h
def outq28_n0 : Iq28_n0 → (Ex → St → Ans) → Yq28_n0 → Ans := fun (t1,t2,t9,t16,o0_4,o0_5,o1,o2,o3,o4,o6_0,o6_1) K => (Sum.elim (fun o7_y => K (Ex.norm) { env := [(6,.ptr 5 0),(8,.ptr 6 0),(9,.int .i64 t9)],stk := [[(0,.ptr 0 0)]],H := [.cells [.own 1,.own 2,.own 3,.own 7,.int .i64 o0_4,.int .i64 o0_5],.arr (.int .i64) o1,.arr (.int .i64) o2,.arr (.st (.pair (.int .i64) (.int .i64))) o3,.arr (.st (.pair (.int .i64) .str)) o4,.cells [.int .i64 (0),.int .i64 (0)],.cells [.int .i64 o6_0,.int .i64 o6_1],.arr (.st (.pair (.int .i64) .str)) o7_y],blk := 172032 }) (fun _ => K (Ex.norm) { env := [(6,.ptr 5 0),(8,.ptr 6 0),(9,.int .i64 t9)],stk := [[(0,.ptr 0 0)]],H := [.cells [.own 1,.own 2,.own 3,.own 4,.int .i64 o0_4,.int .i64 o0_5],.arr (.int .i64) o1,.arr (.int .i64) o2,.arr (.st (.pair (.int .i64) (.int .i64))) o3,.arr (.st (.pair (.int .i64) .str)) o4,.cells [.int .i64 (0),.int .i64 (0)],.cells [.int .i64 o6_0,.int .i64 o6_1]],blk := 172032 }))
def nodeq28_n0 {β : Type} : Iq28_n0 → (Yq28_n0 → Option β) → Option β := fun (t1,t2,t9,t16,o0_4,o0_5,o1,o2,o3,o4,o6_0,o6_1) exit => (bif t16 then (bif Nat.ble (((0 : Nat) + List.length o4) * (24 : Nat)) (140737488355328 : Nat) then (bif Nat.ble ((List.length o4 + List.length [(t1,t2)]) * (24 : Nat)) (140737488355328 : Nat) then (exit (Sum.inl (o4 ++ [(t1,t2)]))) else none) else none) else (exit (Sum.inr ())))
def nodeDq28_n0 (i : Iq28_n0) : Option Yq28_n0 := nodeq28_n0 i some
theorem nodeq28_n0_nat (i : Iq28_n0) (k : Yq28_n0 → Ans) : nodeq28_n0 i k = bindO (nodeDq28_n0 i) k := by
  obtain ⟨t1,t2,t9,t16,o0_4,o0_5,o1,o2,o3,o4,o6_0,o6_1⟩ := i
  simp only [nodeDq28_n0,nodeq28_n0,bindO_cond,bindO_assoc,bindO_none,bindO_pure,bindO_elim,bindO_unP,bindO_empty]
theorem nodeq28_n0_ok (i : Iq28_n0) (K : Ex → St → Ans) : codeI Try.tab envq28 noHint (codeD Try.tab envq28 noHint 0 64) 70 33 annLq28_n0 Lq28_n0 (weakP 5 (exk [6,8,9] [6,7] []) K) (Sq28_n0 i) = nodeq28_n0 i (outq28_n0 i K) := by kernel_rfl
theorem GNq28_n0_ok : CSum Try.prog 33 Lq28_n0 (sumN decq28_n0 nodeDq28_n0 outq28_n0) := csum_node mixed tabOk envq28Ok 5 (exk [6,8,9] [6,7] []) annLq28_n0_ok decq28_n0_ok nodeq28_n0_ok nodeq28_n0_nat
noncomputable def Gq28_n0 : (Ex → St → Ans) → St → Ans := (sumN decq28_n0 nodeDq28_n0 outq28_n0)
theorem Gq28_n0_ok : CSum Try.prog 33 Lq28_n0 Gq28_n0 := GNq28_n0_ok
noncomputable def annq28 : Ann := (.seq .none (.seq .none (.seq (.seq .none (.cut 5 [0,1,2,6,8,9,16] Gq28_n0)) .none)))
theorem annq28_ok : AnnOk Try.prog 33 bq28 annq28 := ⟨(annOk_none _ _ _),⟨(annOk_none _ _ _),⟨⟨(annOk_none _ _ _),Gq28_n0_ok⟩,(annOk_none _ _ _)⟩⟩⟩
abbrev Aq28 := (Int) × (List UInt8) × (Int) × (Int) × (List Int) × (List Int) × (List (Int × Int)) × (List (Int × List UInt8))
abbrev Yq28 := ((Int) × (Int) × (Int) × (Int) × (Int) × (List (Int × List UInt8))) ⊕ ((Int) × (Int) × (Int) × (Int) × (Int))
def fnq28 {β : Type} : Aq28 → (Yq28 → Option β) → Option β := fun (a1,a2,o0_4,o0_5,o1,o2,o3,o4) exit => (bindO (fnDq29 (o0_4,o0_5,o1,o2,o3,o4)) (unP fun r_0_0 => unP fun r_0_1 => unP fun r_1 => unP fun o0_4_2 o0_5_2 => (bindO (nodeDq28_n0 (a1,a2,r_1,r_1 == (0 : Int),o0_4_2,o0_5_2,o1,o2,o3,o4,r_0_0,r_0_1)) (Sum.elim (fun o7 => (exit (Sum.inl (r_0_0,r_0_1,r_1,o0_4_2,o0_5_2,o7)))) (fun _ => (exit (Sum.inr (r_0_0,r_0_1,r_1,o0_4_2,o0_5_2))))))))
def fnDq28 (a : Aq28) : Option Yq28 := fnq28 a some
theorem fnq28_nat (a : Aq28) (k : Yq28 → Ans) : fnq28 a k = bindO (fnDq28 a) k := by
  obtain ⟨a1,a2,o0_4,o0_5,o1,o2,o3,o4⟩ := a
  simp only [fnDq28,fnq28,bindO_cond,bindO_assoc,bindO_none,bindO_pure,bindO_elim,bindO_unP,bindO_empty]
def argsq28 : Aq28 → List AV × List AE.Obj := fun (a1,a2,o0_4,o0_5,o1,o2,o3,o4) => ([.ptr 0 0,.int .i64 a1,.str a2],[.cells [.own 1,.own 2,.own 3,.own 4,.int .i64 o0_4,.int .i64 o0_5],.arr (.int .i64) o1,.arr (.int .i64) o2,.arr (.st (.pair (.int .i64) (.int .i64))) o3,.arr (.st (.pair (.int .i64) .str)) o4])
def decPAq28 (l : List AV) (H : List AE.Obj) : Option {a : Aq28 // (l,H) = argsq28 a} := match l,H with
  | [.ptr 0 0,.int .i64 a1,.str a2],[.cells [.own 1,.own 2,.own 3,.own 4,.int .i64 o0_4,.int .i64 o0_5],.arr (.int .i64) o1,.arr (.int .i64) o2,.arr (.st (.pair (.int .i64) (.int .i64))) o3,.arr (.st (.pair (.int .i64) .str)) o4] => some ⟨(a1,a2,o0_4,o0_5,o1,o2,o3,o4),rfl⟩
  | _,_ => none
def decAq28 (l : List AV) (H : List AE.Obj) : Option Aq28 := pk (decPAq28 l H)
theorem decAq28_ok (l : List AV) (H : List AE.Obj) (a : Aq28) (h : decAq28 l H = some a) : (l,H) = argsq28 a := pk_ok (o := decPAq28 l H) h
def outq28 : Aq28 → (AV → List AE.Obj → Ans) → Yq28 → Ans := fun (a1,a2,o0_4,o0_5,o1,o2,o3,o4) K => (Sum.elim (unP fun r_0_0_y => unP fun r_0_1_y => unP fun r_1_y => unP fun o0_4_y => unP fun o0_5_y o5_y => K (.tup [.agg [.int .i64 r_0_0_y,.int .i64 r_0_1_y],.int .i64 r_1_y]) [.cells [.own 1,.own 2,.own 3,.own 5,.int .i64 o0_4_y,.int .i64 o0_5_y],.arr (.int .i64) o1,.arr (.int .i64) o2,.arr (.st (.pair (.int .i64) (.int .i64))) o3,.arr (.st (.pair (.int .i64) .str)) o4,.arr (.st (.pair (.int .i64) .str)) o5_y]) (unP fun r_0_0_y => unP fun r_0_1_y => unP fun r_1_y => unP fun o0_4_y o0_5_y => K (.tup [.agg [.int .i64 r_0_0_y,.int .i64 r_0_1_y],.int .i64 r_1_y]) [.cells [.own 1,.own 2,.own 3,.own 4,.int .i64 o0_4_y,.int .i64 o0_5_y],.arr (.int .i64) o1,.arr (.int .i64) o2,.arr (.st (.pair (.int .i64) (.int .i64))) o3,.arr (.st (.pair (.int .i64) .str)) o4]))
theorem fnq28_ok (a : Aq28) (K : AV → List AE.Obj → Ans) : fnE Try.tab envq28 noHint 0 70 42 Try.f42.ntmps Try.f42.results.toList annq28 bq28 (argsq28 a).1 (argsq28 a).2 K = fnq28 a (outq28 a K) := by kernel_rfl
def vFq28 (a : Aq28) (K : AV → List AE.Obj → Ans) : Ans := bindO (fnDq28 a) fun y => outq28 a K y
def Fq28 : List AV → List AE.Obj → (AV → List AE.Obj → Ans) → Ans := fun l H K => bindO (decAq28 l H) fun a => vFq28 a K
theorem Fq28_ok : FuncOk Try.prog 42 Fq28 := func_mkD (hint := noHint) (d := 0) (n := 70) mixed tabOk envq28Ok Try.func42 (bodySome (by kernel_rfl)) (by decide +kernel) annq28_ok decAq28_ok fnq28_ok fnq28_nat
--@ client_Client_Write
noncomputable def envq16 : Env := [(21,.func Fq20),(42,.func Fq28)]
theorem envq16Ok : EnvOk Try.prog envq16 := EnvOk.cons Fq20_ok (EnvOk.cons Fq28_ok (EnvOk.nil))
noncomputable def bq16 : Code := Try.f9.body.getD .skip
noncomputable def annq16 : Ann := .none
theorem annq16_ok : AnnOk Try.prog 44 bq16 annq16 := (annOk_none _ _ _)
abbrev Aq16 := (Int) × (List UInt8) × (Int) × (Int) × (Int) × (Int) × (Int) × (List (Int × List UInt8)) × (List (Int × Int)) × (List Int) × (List Int) × (List (Int × Int)) × (List (Int × List UInt8)) × (List Int) × (List Int) × (List (Int × Int)) × (List (Int × List UInt8))
abbrev Yq16 := ((Int) × (Int) × (Int) × (Int) × (Int) × (List (Int × List UInt8))) ⊕ ((Int) × (Int) × (Int) × (List (Int × List UInt8)) × (List (Int × List UInt8))) ⊕ ((Int) × (Int) × (Int) × (List (Int × List UInt8)) × (List (Int × List UInt8)))
def fnq16 {β : Type} : Aq16 → (Yq16 → Option β) → Option β := fun (a1,a2,o0_2,o1_4,o1_5,o2_4,o2_5,o3,o4,o5,o6,o7,o8,o9,o10,o11,o12) exit => (bindO (fnDq20 (o0_2,o1_4,o1_5,o2_4,o2_5,o3,o4,o5,o6,o7,o8,o9,o10,o11,o12)) (Sum.elim (fun _ => (bif decide ((↑(List.length o3) : Int) ≥ (200 : Int)) then (exit (Sum.inl ((6 : Int),o1_4,o1_5,o2_4,o2_5,o3))) else (bindO (fnDq28 (a1,a2,o1_4,o1_5,o5,o6,o7,o8)) (Sum.elim (unP fun r_0_0 => unP fun r_0_1 => unP fun r_1 => unP fun o0_4 => unP fun o0_5 o5_2 => (bif r_1 != (0 : Int) then (exit (Sum.inr (Sum.inl (r_1,o0_4,o0_5,o3,o5_2)))) else (bif Nat.ble ((List.length o3 + List.length [(a1,a2)]) * (24 : Nat)) (140737488355328 : Nat) then (exit (Sum.inr (Sum.inl ((0 : Int),o0_4,o0_5,o3 ++ [(a1,a2)],o5_2)))) else none))) (unP fun r_0_0 => unP fun r_0_1 => unP fun r_1 => unP fun o0_4 o0_5 => (bif r_1 != (0 : Int) then (exit (Sum.inl (r_1,o0_4,o0_5,o2_4,o2_5,o3))) else (bif Nat.ble ((List.length o3 + List.length [(a1,a2)]) * (24 : Nat)) (140737488355328 : Nat) then (exit (Sum.inl ((0 : Int),o0_4,o0_5,o2_4,o2_5,o3 ++ [(a1,a2)]))) else none))))))) (fun _ => (bif decide ((↑(List.length o3) : Int) ≥ (200 : Int)) then (exit (Sum.inl ((6 : Int),o1_4,o1_5,o2_4,o2_5,o3))) else (bindO (fnDq28 (a1,a2,o2_4,o2_5,o9,o10,o11,o12)) (Sum.elim (unP fun r_0_0 => unP fun r_0_1 => unP fun r_1 => unP fun o0_4 => unP fun o0_5 o5_2 => (bif r_1 != (0 : Int) then (exit (Sum.inr (Sum.inr (r_1,o0_4,o0_5,o3,o5_2)))) else (bif Nat.ble ((List.length o3 + List.length [(a1,a2)]) * (24 : Nat)) (140737488355328 : Nat) then (exit (Sum.inr (Sum.inr ((0 : Int),o0_4,o0_5,o3 ++ [(a1,a2)],o5_2)))) else none))) (unP fun r_0_0 => unP fun r_0_1 => unP fun r_1 => unP fun o0_4 o0_5 => (bif r_1 != (0 : Int) then (exit (Sum.inl (r_1,o1_4,o1_5,o0_4,o0_5,o3))) else (bif Nat.ble ((List.length o3 + List.length [(a1,a2)]) * (24 : Nat)) (140737488355328 : Nat) then (exit (Sum.inl ((0 : Int),o1_4,o1_5,o0_4,o0_5,o3 ++ [(a1,a2)]))) else none)))))))))
def fnDq16 (a : Aq16) : Option Yq16 := fnq16 a some
theorem fnq16_nat (a : Aq16) (k : Yq16 → Ans) : fnq16 a k = bindO (fnDq16 a) k := by
  obtain ⟨a1,a2,o0_2,o1_4,o1_5,o2_4,o2_5,o3,o4,o5,o6,o7,o8,o9,o10,o11,o12⟩ := a
  simp only [fnDq16,fnq16,bindO_cond,bindO_assoc,bindO_none,bindO_pure,bindO_elim,bindO_unP,bindO_empty]
def argsq16 : Aq16 → List AV × List AE.Obj := fun (a1,a2,o0_2,o1_4,o1_5,o2_4,o2_5,o3,o4,o5,o6,o7,o8,o9,o10,o11,o12) => ([.ptr 0 0,.int .i64 a1,.str a2],[.cells [.ifc 27 (.ptr 1 0),.ifc 27 (.ptr 2 0),.int .i64 o0_2,.own 3,.own 4],.cells [.own 5,.own 6,.own 7,.own 8,.int .i64 o1_4,.int .i64 o1_5],.cells [.own 9,.own 10,.own 11,.own 12,.int .i64 o2_4,.int .i64 o2_5],.arr (.st (.pair (.int .i64) .str)) o3,.arr (.st (.pair (.int .i64) (.int .i64))) o4,.arr (.int .i64) o5,.arr (.int .i64) o6,.arr (.st (.pair (.int .i64) (.int .i64))) o7,.arr (.st (.pair (.int .i64) .str)) o8,.arr (.int .i64) o9,.arr (.int .i64) o10,.arr (.st (.pair (.int .i64) (.int .i64))) o11,.arr (.st (.pair (.int .i64) .str)) o12])
def decPAq16 (l : List AV) (H : List AE.Obj) : Option {a : Aq16 // (l,H) = argsq16 a} := match l,H with
  | [.ptr 0 0,.int .i64 a1,.str a2],[.cells [.ifc 27 (.ptr 1 0),.ifc 27 (.ptr 2 0),.int .i64 o0_2,.own 3,.own 4],.cells [.own 5,.own 6,.own 7,.own 8,.int .i64 o1_4,.int .i64 o1_5],.cells [.own 9,.own 10,.own 11,.own 12,.int .i64 o2_4,.int .i64 o2_5],.arr (.st (.pair (.int .i64) .str)) o3,.arr (.st (.pair (.int .i64) (.int .i64))) o4,.arr (.int .i64) o5,.arr (.int .i64) o6,.arr (.st (.pair (.int .i64) (.int .i64))) o7,.arr (.st (.pair (.int .i64) .str)) o8,.arr (.int .i64) o9,.arr (.int .i64) o10,.arr (.st (.pair (.int .i64) (.int .i64))) o11,.arr (.st (.pair (.int .i64) .str)) o12] => some ⟨(a1,a2,o0_2,o1_4,o1_5,o2_4,o2_5,o3,o4,o5,o6,o7,o8,o9,o10,o11,o12),rfl⟩
  | _,_ => none
def decAq16 (l : List AV) (H : List AE.Obj) : Option Aq16 := pk (decPAq16 l H)
theorem decAq16_ok (l : List AV) (H : List AE.Obj) (a : Aq16) (h : decAq16 l H = some a) : (l,H) = argsq16 a := pk_ok (o := decPAq16 l H) h
def outq16 : Aq16 → (AV → List AE.Obj → Ans) → Yq16 → Ans := fun (a1,a2,o0_2,o1_4,o1_5,o2_4,o2_5,o3,o4,o5,o6,o7,o8,o9,o10,o11,o12) K => (Sum.elim (unP fun r_y => unP fun o1_4_y => unP fun o1_5_y => unP fun o2_4_y => unP fun o2_5_y o3_y => K (.int .i64 r_y) [.cells [.ifc 27 (.ptr 1 0),.ifc 27 (.ptr 2 0),.int .i64 o0_2,.own 3,.own 4],.cells [.own 5,.own 6,.own 7,.own 8,.int .i64 o1_4_y,.int .i64 o1_5_y],.cells [.own 9,.own 10,.own 11,.own 12,.int .i64 o2_4_y,.int .i64 o2_5_y],.arr (.st (.pair (.int .i64) .str)) o3_y,.arr (.st (.pair (.int .i64) (.int .i64))) o4,.arr (.int .i64) o5,.arr (.int .i64) o6,.arr (.st (.pair (.int .i64) (.int .i64))) o7,.arr (.st (.pair (.int .i64) .str)) o8,.arr (.int .i64) o9,.arr (.int .i64) o10,.arr (.st (.pair (.int .i64) (.int .i64))) o11,.arr (.st (.pair (.int .i64) .str)) o12]) ((Sum.elim (unP fun r_y => unP fun o1_4_y => unP fun o1_5_y => unP fun o3_y o13_y => K (.int .i64 r_y) [.cells [.ifc 27 (.ptr 1 0),.ifc 27 (.ptr 2 0),.int .i64 o0_2,.own 3,.own 4],.cells [.own 5,.own 6,.own 7,.own 13,.int .i64 o1_4_y,.int .i64 o1_5_y],.cells [.own 9,.own 10,.own 11,.own 12,.int .i64 o2_4,.int .i64 o2_5],.arr (.st (.pair (.int .i64) .str)) o3_y,.arr (.st (.pair (.int .i64) (.int .i64))) o4,.arr (.int .i64) o5,.arr (.int .i64) o6,.arr (.st (.pair (.int .i64) (.int .i64))) o7,.arr (.st (.pair (.int .i64) .str)) o8,.arr (.int .i64) o9,.arr (.int .i64) o10,.arr (.st (.pair (.int .i64) (.int .i64))) o11,.arr (.st (.pair (.int .i64) .str)) o12,.arr (.st (.pair (.int .i64) .str)) o13_y]) (unP fun r_y => unP fun o2_4_y => unP fun o2_5_y => unP fun o3_y o13_y => K (.int .i64 r_y) [.cells [.ifc 27 (.ptr 1 0),.ifc 27 (.ptr 2 0),.int .i64 o0_2,.own 3,.own 4],.cells [.own 5,.own 6,.own 7,.own 8,.int .i64 o1_4,.int .i64 o1_5],.cells [.own 9,.own 10,.own 11,.own 13,.int .i64 o2_4_y,.int .i64 o2_5_y],.arr (.st (.pair (.int .i64) .str)) o3_y,.arr (.st (.pair (.int .i64) (.int .i64))) o4,.arr (.int .i64) o5,.arr (.int .i64) o6,.arr (.st (.pair (.int .i64) (.int .i64))) o7,.arr (.st (.pair (.int .i64) .str)) o8,.arr (.int .i64) o9,.arr (.int .i64) o10,.arr (.st (.pair (.int .i64) (.int .i64))) o11,.arr (.st (.pair (.int .i64) .str)) o12,.arr (.st (.pair (.int .i64) .str)) o13_y]))))
theorem fnq16_ok (a : Aq16) (K : AV → List AE.Obj → Ans) : fnE Try.tab envq16 noHint 0 70 9 Try.f9.ntmps Try.f9.results.toList annq16 bq16 (argsq16 a).1 (argsq16 a).2 K = fnq16 a (outq16 a K) := by kernel_rfl
def vFq16 (a : Aq16) (K : AV → List AE.Obj → Ans) : Ans := bindO (fnDq16 a) fun y => outq16 a K y
def Fq16 : List AV → List AE.Obj → (AV → List AE.Obj → Ans) → Ans := fun l H K => bindO (decAq16 l H) fun a => vFq16 a K
theorem Fq16_ok : FuncOk Try.prog 9 Fq16 := func_mkD (hint := noHint) (d := 0) (n := 70) mixed tabOk envq16Ok Try.func9 (bodySome (by kernel_rfl)) (by decide +kernel) annq16_ok decAq16_ok fnq16_ok fnq16_nat
--@ law44_Tape_Flush
noncomputable def envq26 : Env := [(15,.func Fq29)]
theorem envq26Ok : EnvOk Try.prog envq26 := EnvOk.cons Fq29_ok (EnvOk.nil)
noncomputable def bq26 : Code := Try.f40.body.getD .skip
noncomputable def annq26 : Ann := .none
theorem annq26_ok : AnnOk Try.prog 8 bq26 annq26 := (annOk_none _ _ _)
abbrev Aq26 := (Int) × (Int) × (List Int) × (List Int) × (List (Int × Int)) × (List (Int × List UInt8))
abbrev Yq26 := (Int) × (Int) × (Int) × (Int) × (Int)
def fnq26 {β : Type} : Aq26 → (Yq26 → Option β) → Option β := fun (o0_4,o0_5,o1,o2,o3,o4) exit => (bindO (fnDq29 (o0_4,o0_5,o1,o2,o3,o4)) (unP fun r_0_0 => unP fun r_0_1 => unP fun r_1 => unP fun o0_4_2 o0_5_2 => (exit (r_0_0,r_0_1,r_1,o0_4_2,o0_5_2))))
def fnDq26 (a : Aq26) : Option Yq26 := fnq26 a some
theorem fnq26_nat (a : Aq26) (k : Yq26 → Ans) : fnq26 a k = bindO (fnDq26 a) k := by
  obtain ⟨o0_4,o0_5,o1,o2,o3,o4⟩ := a
  simp only [fnDq26,fnq26,bindO_cond,bindO_assoc,bindO_none,bindO_pure,bindO_elim,bindO_unP,bindO_empty]
def argsq26 : Aq26 → List AV × List AE.Obj := fun (o0_4,o0_5,o1,o2,o3,o4) => ([.ptr 0 0],[.cells [.own 1,.own 2,.own 3,.own 4,.int .i64 o0_4,.int .i64 o0_5],.arr (.int .i64) o1,.arr (.int .i64) o2,.arr (.st (.pair (.int .i64) (.int .i64))) o3,.arr (.st (.pair (.int .i64) .str)) o4])
def decPAq26 (l : List AV) (H : List AE.Obj) : Option {a : Aq26 // (l,H) = argsq26 a} := match l,H with
  | [.ptr 0 0],[.cells [.own 1,.own 2,.own 3,.own 4,.int .i64 o0_4,.int .i64 o0_5],.arr (.int .i64) o1,.arr (.int .i64) o2,.arr (.st (.pair (.int .i64) (.int .i64))) o3,.arr (.st (.pair (.int .i64) .str)) o4] => some ⟨(o0_4,o0_5,o1,o2,o3,o4),rfl⟩
  | _,_ => none
def decAq26 (l : List AV) (H : List AE.Obj) : Option Aq26 := pk (decPAq26 l H)
theorem decAq26_ok (l : List AV) (H : List AE.Obj) (a : Aq26) (h : decAq26 l H = some a) : (l,H) = argsq26 a := pk_ok (o := decPAq26 l H) h
def outq26 : Aq26 → (AV → List AE.Obj → Ans) → Yq26 → Ans := fun (o0_4,o0_5,o1,o2,o3,o4) K => unP fun r_0_0_y => unP fun r_0_1_y => unP fun r_1_y => unP fun o0_4_y o0_5_y => K (.tup [.agg [.int .i64 r_0_0_y,.int .i64 r_0_1_y],.int .i64 r_1_y]) [.cells [.own 1,.own 2,.own 3,.own 4,.int .i64 o0_4_y,.int .i64 o0_5_y],.arr (.int .i64) o1,.arr (.int .i64) o2,.arr (.st (.pair (.int .i64) (.int .i64))) o3,.arr (.st (.pair (.int .i64) .str)) o4]
theorem fnq26_ok (a : Aq26) (K : AV → List AE.Obj → Ans) : fnE Try.tab envq26 noHint 0 70 40 Try.f40.ntmps Try.f40.results.toList annq26 bq26 (argsq26 a).1 (argsq26 a).2 K = fnq26 a (outq26 a K) := by kernel_rfl
def vFq26 (a : Aq26) (K : AV → List AE.Obj → Ans) : Ans := bindO (fnDq26 a) fun y => outq26 a K y
def Fq26 : List AV → List AE.Obj → (AV → List AE.Obj → Ans) → Ans := fun l H K => bindO (decAq26 l H) fun a => vFq26 a K
theorem Fq26_ok : FuncOk Try.prog 40 Fq26 := func_mkD (hint := noHint) (d := 0) (n := 70) mixed tabOk envq26Ok Try.func40 (bodySome (by kernel_rfl)) (by decide +kernel) annq26_ok decAq26_ok fnq26_ok fnq26_nat
--@ client_Client_forget
noncomputable def envq19 : Env := []
theorem envq19Ok : EnvOk Try.prog envq19 := EnvOk.nil
noncomputable def bq19 : Code := Try.f22.body.getD .skip
noncomputable def Lq19_n0 : Code := codeAt [1,1,1,1,0,0] bq19
noncomputable def annLq19_n0 : Ann := .at 13 [0,1,30,31] (.loop .none)
theorem annLq19_n0_ok : AnnOk Try.prog 53 (.loop Lq19_n0) annLq19_n0 := annOk_at (annOk_none _ _ _)
abbrev Iq19_n0 := (Int) × (Int) × (Int) × (Int) × (Int) × (Int) × (Int) × (List (Int × List UInt8)) × (List Int) × (List Int) × (List (Int × Int)) × (List (Int × List UInt8)) × (List Int) × (List Int) × (List (Int × Int)) × (List (Int × List UInt8)) × (List (Int × List UInt8))
abbrev Yq19_n0 := (List (Int × Int))
abbrev Vq19_n0 := (Int) × (List (Int × Int))
def Sq19_n0 : Iq19_n0 → Vq19_n0 → St := fun (t1,t30,o0_2,o1_4,o1_5,o2_4,o2_5,o3,o5,o6,o7,o8,o9,o10,o11,o12,o13) (t31,o4) => { env := [(0,.ptr 0 0),(1,.int .i64 t1),(30,.int .i64 t30),(31,.int .i64 t31)],stk := [[(0,.ptr 0 0),(1,.ptr 1 0),(2,.ptr 2 0)]],H := [.cells [.ifc 27 (.ptr 1 0),.ifc 27 (.ptr 2 0),.int .i64 o0_2,.own 13,.own 4],.cells [.own 5,.own 6,.own 7,.own 8,.int .i64 o1_4,.int .i64 o1_5],.cells [.own 9,.own 10,.own 11,.own 12,.int .i64 o2_4,.int .i64 o2_5],.arr (.st (.pair (.int .i64) .str)) o3,.arr (.st (.pair (.int .i64) (.int .i64))) o4,.arr (.int .i64) o5,.arr (.int .i64) o6,.arr (.st (.pair (.int .i64) (.int .i64))) o7,.arr (.st (.pair (.int .i64) .str)) o8,.arr (.int .i64) o9,.arr (.int .i64) o10,.arr (.st (.pair (.int .i64) (.int .i64))) o11,.arr (.st (.pair (.int .i64) .str)) o12,.arr (.st (.pair (.int .i64) .str)) o13],blk := 90112 }
def decPq19_n0 (s : St) : Option {x : Iq19_n0 × Vq19_n0 // s = Sq19_n0 x.1 x.2} := match s with
  | { env := [(0,.ptr 0 0),(1,.int .i64 t1),(30,.int .i64 t30),(31,.int .i64 t31)],stk := [[(0,.ptr 0 0),(1,.ptr 1 0),(2,.ptr 2 0)]],H := [.cells [.ifc 27 (.ptr 1 0),.ifc 27 (.ptr 2 0),.int .i64 o0_2,.own 13,.own 4],.cells [.own 5,.own 6,.own 7,.own 8,.int .i64 o1_4,.int .i64 o1_5],.cells [.own 9,.own 10,.own 11,.own 12,.int .i64 o2_4,.int .i64 o2_5],.arr (.st (.pair (.int .i64) .str)) o3,.arr (.st (.pair (.int .i64) (.int .i64))) o4,.arr (.int .i64) o5,.arr (.int .i64) o6,.arr (.st (.pair (.int .i64) (.int .i64))) o7,.arr (.st (.pair (.int .i64) .str)) o8,.arr (.int .i64) o9,.arr (.int .i64) o10,.arr (.st (.pair (.int .i64) (.int .i64))) o11,.arr (.st (.pair (.int .i64) .str)) o12,.arr (.st (.pair (.int .i64) .str)) o13],blk := 90112 } => some ⟨((t1,t30,o0_2,o1_4,o1_5,o2_4,o2_5,o3,o5,o6,o7,o8,o9,o10,o11,o12,o13),(t31,o4)),rfl⟩
  | _ => none
def decq19_n0 (s : St) : Option (Iq19_n0 × Vq19_n0) := pk (decPq19_n0 s)
theorem decq19_n0_ok (s : St) (x : Iq19_n0 × Vq19_n0) (h : decq19_n0 s = some x) : s = Sq19_n0 x.1 x.2 := pk_ok (o := decPq19_n0 s) h
def outq19_n0 : Iq19_n0 → (Ex → St → Ans) → Yq19_n0 → Ans := fun (t1,t30,o0_2,o1_4,o1_5,o2_4,o2_5,o3,o5,o6,o7,o8,o9,o10,o11,o12,o13) K => fun o4_y => K (Ex.exit 0) { env := [],stk := [[(0,.ptr 0 0),(1,.ptr 1 0),(2,.ptr 2 0)]],H := [.cells [.ifc 27 (.ptr 1 0),.ifc 27 (.ptr 2 0),.int .i64 o0_2,.own 13,.own 4],.cells [.own 5,.own 6,.own 7,.own 8,.int .i64 o1_4,.int .i64 o1_5],.cells [.own 9,.own 10,.own 11,.own 12,.int .i64 o2_4,.int .i64 o2_5],.arr (.st (.pair (.int .i64) .str)) o3,.arr (.st (.pair (.int .i64) (.int .i64))) o4_y,.arr (.int .i64) o5,.arr (.int .i64) o6,.arr (.st (.pair (.int .i64) (.int .i64))) o7,.arr (.st (.pair (.int .i64) .str)) o8,.arr (.int .i64) o9,.arr (.int .i64) o10,.arr (.st (.pair (.int .i64) (.int .i64))) o11,.arr (.st (.pair (.int .i64) .str)) o12,.arr (.st (.pair (.int .i64) .str)) o13],blk := 90112 }
def stepq19_n0 {β : Type} : Iq19_n0 → Vq19_n0 → (Vq19_n0 → Option β) → (Yq19_n0 → Option β) → Option β := fun (t1,t30,o0_2,o1_4,o1_5,o2_4,o2_5,o3,o5,o6,o7,o8,o9,o10,o11,o12,o13) (t31,o4) next exit => (bif decide (t31 < t30) then (bif inR t31 (List.length o4) then (bindO (o4[Int.toNat t31]?) fun x => (bif inR t31 (List.length o4) then (bindO (o4[Int.toNat t31]?) fun x_2 => (next (IntKind.wrap .i64 (t31 + (1 : Int)),List.set o4 (Int.toNat t31) (x_2.fst,if (0 : Int) > IntKind.wrap .i64 (x.snd - t1) then (0 : Int) else IntKind.wrap .i64 (x.snd - t1))))) else none)) else none) else (exit (o4)))
def stepDq19_n0 (i : Iq19_n0) (v : Vq19_n0) : Option (Vq19_n0 ⊕ Yq19_n0) := stepq19_n0 i v (fun v => some (.inl v)) (fun y => some (.inr y))
theorem stepq19_n0_nat (i : Iq19_n0) (v : Vq19_n0) (next : Vq19_n0 → Ans) (exit : Yq19_n0 → Ans) : stepq19_n0 i v next exit = bindO (stepDq19_n0 i v) (Sum.elim next exit) := by
  obtain ⟨t1,t30,o0_2,o1_4,o1_5,o2_4,o2_5,o3,o5,o6,o7,o8,o9,o10,o11,o12,o13⟩ := i
  obtain ⟨t31,o4⟩ := v
  simp only [stepDq19_n0,stepq19_n0,bindO_cond,bindO_assoc,bindO_none,bindO_pure,bindO_elim,bindO_unP,bindO_empty,Sum.elim_inl,Sum.elim_inr]
theorem stepq19_n0_ok (n : Nat) (i : Iq19_n0) (v : Vq19_n0) (K : Ex → St → Ans) : codeI Try.tab envq19 noHint (codeD Try.tab envq19 noHint 0 64) (n+1) 53 annLq19_n0 (.loop Lq19_n0) (weakP 13 (exk [] [] [(0,[])]) K) (Sq19_n0 i v) = stepq19_n0 i v (fun v' => codeI Try.tab envq19 noHint (codeD Try.tab envq19 noHint 0 64) n 53 annLq19_n0 (.loop Lq19_n0) (weakP 13 (exk [] [] [(0,[])]) K) (Sq19_n0 i v')) (fun y => outq19_n0 i K y) := by kernel_rfl
theorem GNq19_n0_ok : CSum Try.prog 53 (.loop Lq19_n0) (sumL decq19_n0 stepDq19_n0 outq19_n0) := csum_loop mixed tabOk envq19Ok 13 (exk [] [] [(0,[])]) annLq19_n0_ok decq19_n0_ok stepq19_n0_ok stepq19_n0_nat
noncomputable def Gq19_n0 : (Ex → St → Ans) → St → Ans := (sumL decq19_n0 stepDq19_n0 outq19_n0)
theorem Gq19_n0_ok : CSum Try.prog 53 (.loop Lq19_n0) Gq19_n0 := GNq19_n0_ok
noncomputable def annq19 : Ann := (.seq .none (.seq .none (.seq .none (.seq .none (.block (.cut 13 [0,1,30,31] Gq19_n0))))))
theorem annq19_ok : AnnOk Try.prog 53 bq19 annq19 := ⟨(annOk_none _ _ _),⟨(annOk_none _ _ _),⟨(annOk_none _ _ _),⟨(annOk_none _ _ _),Gq19_n0_ok⟩⟩⟩⟩
abbrev Aq19 := (Int) × (Int) × (Int) × (Int) × (Int) × (Int) × (List (Int × List UInt8)) × (List (Int × Int)) × (List Int) × (List Int) × (List (Int × Int)) × (List (Int × List UInt8)) × (List Int) × (List Int) × (List (Int × Int)) × (List (Int × List UInt8))
abbrev Yq19 := (List (Int × Int)) × (List (Int × List UInt8))
def fnq19 {β : Type} : Aq19 → (Yq19 → Option β) → Option β := fun (a1,o0_2,o1_4,o1_5,o2_4,o2_5,o3,o4,o5,o6,o7,o8,o9,o10,o11,o12) exit => (bif decide ((0 : Int) ≤ IntKind.wrap .i64 ((↑(List.length o3) : Int) - a1)) && decide (IntKind.wrap .i64 ((↑(List.length o3) : Int) - a1) ≤ IntKind.wrap .i64 ((↑(List.length o3) : Int) - a1)) && decide ((24 : Int) * IntKind.wrap .i64 ((↑(List.length o3) : Int) - a1) ≤ (281474976710656 : Int)) && decide (IntKind.wrap .i64 ((↑(List.length o3) : Int) - a1) ≤ (9223372036854775807 : Int)) then (bif inR a1 (List.length o3 + (1 : Nat)) then (bif Nat.ble (Int.toNat a1 + (List.length o3 - Int.toNat a1)) (List.length o3) then (bindO (loopD (stepDq19_n0 (a1,(↑(List.length o4) : Int),o0_2,o1_4,o1_5,o2_4,o2_5,o3,o5,o6,o7,o8,o9,o10,o11,o12,List.take (List.length (List.replicate (Int.toNat (IntKind.wrap .i64 ((↑(List.length o3) : Int) - a1))) ((0 : Int),nilL UInt8))) (List.take (List.length o3 - Int.toNat a1) (List.drop (Int.toNat a1) o3)) ++ List.drop (List.length (List.take (List.length o3 - Int.toNat a1) (List.drop (Int.toNat a1) o3))) (List.replicate (Int.toNat (IntKind.wrap .i64 ((↑(List.length o3) : Int) - a1))) ((0 : Int),nilL UInt8)))) FUEL ((0 : Int),o4)) fun o4_2 => (exit (o4_2,List.take (List.length (List.replicate (Int.toNat (IntKind.wrap .i64 ((↑(List.length o3) : Int) - a1))) ((0 : Int),nilL UInt8))) (List.take (List.length o3 - Int.toNat a1) (List.drop (Int.toNat a1) o3)) ++ List.drop (List.length (List.take (List.length o3 - Int.toNat a1) (List.drop (Int.toNat a1) o3))) (List.replicate (Int.toNat (IntKind.wrap .i64 ((↑(List.length o3) : Int) - a1))) ((0 : Int),nilL UInt8))))) else none) else none) else none)
def fnDq19 (a : Aq19) : Option Yq19 := fnq19 a some
theorem fnq19_nat (a : Aq19) (k : Yq19 → Ans) : fnq19 a k = bindO (fnDq19 a) k := by
  obtain ⟨a1,o0_2,o1_4,o1_5,o2_4,o2_5,o3,o4,o5,o6,o7,o8,o9,o10,o11,o12⟩ := a
  simp only [fnDq19,fnq19,bindO_cond,bindO_assoc,bindO_none,bindO_pure,bindO_elim,bindO_unP,bindO_empty]
def argsq19 : Aq19 → List AV × List AE.Obj := fun (a1,o0_2,o1_4,o1_5,o2_4,o2_5,o3,o4,o5,o6,o7,o8,o9,o10,o11,o12) => ([.ptr 0 0,.int .i64 a1],[.cells [.ifc 27 (.ptr 1 0),.ifc 27 (.ptr 2 0),.int .i64 o0_2,.own 3,.own 4],.cells [.own 5,.own 6,.own 7,.own 8,.int .i64 o1_4,.int .i64 o1_5],.cells [.own 9,.own 10,.own 11,.own 12,.int .i64 o2_4,.int .i64 o2_5],.arr (.st (.pair (.int .i64) .str)) o3,.arr (.st (.pair (.int .i64) (.int .i64))) o4,.arr (.int .i64) o5,.arr (.int .i64) o6,.arr (.st (.pair (.int .i64) (.int .i64))) o7,.arr (.st (.pair (.int .i64) .str)) o8,.arr (.int .i64) o9,.arr (.int .i64) o10,.arr (.st (.pair (.int .i64) (.int .i64))) o11,.arr (.st (.pair (.int .i64) .str)) o12])
def decPAq19 (l : List AV) (H : List AE.Obj) : Option {a : Aq19 // (l,H) = argsq19 a} := match l,H with
  | [.ptr 0 0,.int .i64 a1],[.cells [.ifc 27 (.ptr 1 0),.ifc 27 (.ptr 2 0),.int .i64 o0_2,.own 3,.own 4],.cells [.own 5,.own 6,.own 7,.own 8,.int .i64 o1_4,.int .i64 o1_5],.cells [.own 9,.own 10,.own 11,.own 12,.int .i64 o2_4,.int .i64 o2_5],.arr (.st (.pair (.int .i64) .str)) o3,.arr (.st (.pair (.int .i64) (.int .i64))) o4,.arr (.int .i64) o5,.arr (.int .i64) o6,.arr (.st (.pair (.int .i64) (.int .i64))) o7,.arr (.st (.pair (.int .i64) .str)) o8,.arr (.int .i64) o9,.arr (.int .i64) o10,.arr (.st (.pair (.int .i64) (.int .i64))) o11,.arr (.st (.pair (.int .i64) .str)) o12] => some ⟨(a1,o0_2,o1_4,o1_5,o2_4,o2_5,o3,o4,o5,o6,o7,o8,o9,o10,o11,o12),rfl⟩
  | _,_ => none
def decAq19 (l : List AV) (H : List AE.Obj) : Option Aq19 := pk (decPAq19 l H)
theorem decAq19_ok (l : List AV) (H : List AE.Obj) (a : Aq19) (h : decAq19 l H = some a) : (l,H) = argsq19 a := pk_ok (o := decPAq19 l H) h
def outq19 : Aq19 → (AV → List AE.Obj → Ans) → Yq19 → Ans := fun (a1,o0_2,o1_4,o1_5,o2_4,o2_5,o3,o4,o5,o6,o7,o8,o9,o10,o11,o12) K => unP fun o4_y o13_y => K (.tup []) [.cells [.ifc 27 (.ptr 1 0),.ifc 27 (.ptr 2 0),.int .i64 o0_2,.own 13,.own 4],.cells [.own 5,.own 6,.own 7,.own 8,.int .i64 o1_4,.int .i64 o1_5],.cells [.own 9,.own 10,.own 11,.own 12,.int .i64 o2_4,.int .i64 o2_5],.arr (.st (.pair (.int .i64) .str)) o3,.arr (.st (.pair (.int .i64) (.int .i64))) o4_y,.arr (.int .i64) o5,.arr (.int .i64) o6,.arr (.st (.pair (.int .i64) (.int .i64))) o7,.arr (.st (.pair (.int .i64) .str)) o8,.arr (.int .i64) o9,.arr (.int .i64) o10,.arr (.st (.pair (.int .i64) (.int .i64))) o11,.arr (.st (.pair (.int .i64) .str)) o12,.arr (.st (.pair (.int .i64) .str)) o13_y]
theorem fnq19_ok (a : Aq19) (K : AV → List AE.Obj → Ans) : fnE Try.tab envq19 noHint 0 70 22 Try.f22.ntmps Try.f22.results.toList annq19 bq19 (argsq19 a).1 (argsq19 a).2 K = fnq19 a (outq19 a K) := by kernel_rfl
def vFq19 (a : Aq19) (K : AV → List AE.Obj → Ans) : Ans := bindO (fnDq19 a) fun y => outq19 a K y
def Fq19 : List AV → List AE.Obj → (AV → List AE.Obj → Ans) → Ans := fun l H K => bindO (decAq19 l H) fun a => vFq19 a K
theorem Fq19_ok : FuncOk Try.prog 22 Fq19 := func_mkD (hint := noHint) (d := 0) (n := 70) mixed tabOk envq19Ok Try.func22 (bodySome (by kernel_rfl)) (by decide +kernel) annq19_ok decAq19_ok fnq19_ok fnq19_nat
--@ client_Client_Flush
noncomputable def envq2 : Env := [(21,.func Fq20),(40,.func Fq26),(22,.func Fq19)]
theorem envq2Ok : EnvOk Try.prog envq2 := EnvOk.cons Fq20_ok (EnvOk.cons Fq26_ok (EnvOk.cons Fq19_ok (EnvOk.nil)))
noncomputable def bq2 : Code := Try.f10.body.getD .skip
noncomputable def annq2 : Ann := .none
theorem annq2_ok : AnnOk Try.prog 52 bq2 annq2 := (annOk_none _ _ _)
abbrev Aq2 := (Int) × (Int) × (Int) × (Int) × (Int) × (List (Int × List UInt8)) × (List (Int × Int)) × (List Int) × (List Int) × (List (Int × Int)) × (List (Int × List UInt8)) × (List Int) × (List Int) × (List (Int × Int)) × (List (Int × List UInt8))
abbrev Yq2 := ((Int) × (Int) × (Int) × (Int) × (Int) × (List (Int × Int))) ⊕ ((Int) × (Int) × (Int) × (Int) × (List (Int × Int)) × (List (Int × List UInt8)))
def fnq2 {β : Type} : Aq2 → (Yq2 → Option β) → Option β := fun (o0_2,o1_4,o1_5,o2_4,o2_5,o3,o4,o5,o6,o7,o8,o9,o10,o11,o12) exit => (bindO (fnDq20 (o0_2,o1_4,o1_5,o2_4,o2_5,o3,o4,o5,o6,o7,o8,o9,o10,o11,o12)) (Sum.elim (fun _ => (bindO (fnDq26 (o1_4,o1_5,o5,o6,o7,o8)) (unP fun r_0_0 => unP fun r_0_1 => unP fun r_1 => unP fun o0_4 o0_5 => (bif r_1 != (0 : Int) then (exit (Sum.inl (r_1,o0_4,o0_5,o2_4,o2_5,o4))) else (bif r_0_1 == (2 : Int) then (bindO (fnDq19 ((↑(List.length o3) : Int),o0_2,o0_4,o0_5,o2_4,o2_5,o3,o4,o5,o6,o7,o8,o9,o10,o11,o12)) (unP fun o4_2 o13 => (exit (Sum.inr (o0_4,o0_5,o2_4,o2_5,o4_2,o13))))) else (bif r_0_1 == (1 : Int) then (exit (Sum.inl ((0 : Int),o0_4,o0_5,o2_4,o2_5,o4))) else (bif Nat.ble ((List.length o4 + List.length [(r_0_0,(↑(List.length o3) : Int))]) * (16 : Nat)) (140737488355328 : Nat) then (exit (Sum.inl ((0 : Int),o0_4,o0_5,o2_4,o2_5,o4 ++ [(r_0_0,(↑(List.length o3) : Int))]))) else none))))))) (fun _ => (bindO (fnDq26 (o2_4,o2_5,o9,o10,o11,o12)) (unP fun r_0_0 => unP fun r_0_1 => unP fun r_1 => unP fun o0_4 o0_5 => (bif r_1 != (0 : Int) then (exit (Sum.inl (r_1,o1_4,o1_5,o0_4,o0_5,o4))) else (bif r_0_1 == (2 : Int) then (bindO (fnDq19 ((↑(List.length o3) : Int),o0_2,o1_4,o1_5,o0_4,o0_5,o3,o4,o5,o6,o7,o8,o9,o10,o11,o12)) (unP fun o4_2 o13 => (exit (Sum.inr (o1_4,o1_5,o0_4,o0_5,o4_2,o13))))) else (bif r_0_1 == (1 : Int) then (exit (Sum.inl ((0 : Int),o1_4,o1_5,o0_4,o0_5,o4))) else (bif Nat.ble ((List.length o4 + List.length [(r_0_0,(↑(List.length o3) : Int))]) * (16 : Nat)) (140737488355328 : Nat) then (exit (Sum.inl ((0 : Int),o1_4,o1_5,o0_4,o0_5,o4 ++ [(r_0_0,(↑(List.length o3) : Int))]))) else none)))))))))
def fnDq2 (a : Aq2) : Option Yq2 := fnq2 a some
theorem fnq2_nat (a : Aq2) (k : Yq2 → Ans) : fnq2 a k = bindO (fnDq2 a) k := by
  obtain ⟨o0_2,o1_4,o1_5,o2_4,o2_5,o3,o4,o5,o6,o7,o8,o9,o10,o11,o12⟩ := a
  simp only [fnDq2,fnq2,bindO_cond,bindO_assoc,bindO_none,bindO_pure,bindO_elim,bindO_unP,bindO_empty]
def argsq2 : Aq2 → List AV × List AE.Obj := fun (o0_2,o1_4,o1_5,o2_4,o2_5,o3,o4,o5,o6,o7,o8,o9,o10,o11,o12) => ([.ptr 0 0],[.cells [.ifc 27 (.ptr 1 0),.ifc 27 (.ptr 2 0),.int .i64 o0_2,.own 3,.own 4],.cells [.own 5,.own 6,.own 7,.own 8,.int .i64 o1_4,.int .i64 o1_5],.cells [.own 9,.own 10,.own 11,.own 12,.int .i64 o2_4,.int .i64 o2_5],.arr (.st (.pair (.int .i64) .str)) o3,.arr (.st (.pair (.int .i64) (.int .i64))) o4,.arr (.int .i64) o5,.arr (.int .i64) o6,.arr (.st (.pair (.int .i64) (.int .i64))) o7,.arr (.st (.pair (.int .i64) .str)) o8,.arr (.int .i64) o9,.arr (.int .i64) o10,.arr (.st (.pair (.int .i64) (.int .i64))) o11,.arr (.st (.pair (.int .i64) .str)) o12])
def decPAq2 (l : List AV) (H : List AE.Obj) : Option {a : Aq2 // (l,H) = argsq2 a} := match l,H with
  | [.ptr 0 0],[.cells [.ifc 27 (.ptr 1 0),.ifc 27 (.ptr 2 0),.int .i64 o0_2,.own 3,.own 4],.cells [.own 5,.own 6,.own 7,.own 8,.int .i64 o1_4,.int .i64 o1_5],.cells [.own 9,.own 10,.own 11,.own 12,.int .i64 o2_4,.int .i64 o2_5],.arr (.st (.pair (.int .i64) .str)) o3,.arr (.st (.pair (.int .i64) (.int .i64))) o4,.arr (.int .i64) o5,.arr (.int .i64) o6,.arr (.st (.pair (.int .i64) (.int .i64))) o7,.arr (.st (.pair (.int .i64) .str)) o8,.arr (.int .i64) o9,.arr (.int .i64) o10,.arr (.st (.pair (.int .i64) (.int .i64))) o11,.arr (.st (.pair (.int .i64) .str)) o12] => some ⟨(o0_2,o1_4,o1_5,o2_4,o2_5,o3,o4,o5,o6,o7,o8,o9,o10,o11,o12),rfl⟩
  | _,_ => none
def decAq2 (l : List AV) (H : List AE.Obj) : Option Aq2 := pk (decPAq2 l H)
theorem decAq2_ok (l : List AV) (H : List AE.Obj) (a : Aq2) (h : decAq2 l H = some a) : (l,H) = argsq2 a := pk_ok (o := decPAq2 l H) h
def outq2 : Aq2 → (AV → List AE.Obj → Ans) → Yq2 → Ans := fun (o0_2,o1_4,o1_5,o2_4,o2_5,o3,o4,o5,o6,o7,o8,o9,o10,o11,o12) K => (Sum.elim (unP fun r_1_y => unP fun o1_4_y => unP fun o1_5_y => unP fun o2_4_y => unP fun o2_5_y o4_y => K (.tup [.bool (false),.int .i64 r_1_y]) [.cells [.ifc 27 (.ptr 1 0),.ifc 27 (.ptr 2 0),.int .i64 o0_2,.own 3,.own 4],.cells [.own 5,.own 6,.own 7,.own 8,.int .i64 o1_4_y,.int .i64 o1_5_y],.cells [.own 9,.own 10,.own 11,.own 12,.int .i64 o2_4_y,.int .i64 o2_5_y],.arr (.st (.pair (.int .i64) .str)) o3,.arr (.st (.pair (.int .i64) (.int .i64))) o4_y,.arr (.int .i64) o5,.arr (.int .i64) o6,.arr (.st (.pair (.int .i64) (.int .i64))) o7,.arr (.st (.pair (.int .i64) .str)) o8,.arr (.int .i64) o9,.arr (.int .i64) o10,.arr (.st (.pair (.int .i64) (.int .i64))) o11,.arr (.st (.pair (.int .i64) .str)) o12]) (unP fun o1_4_y => unP fun o1_5_y => unP fun o2_4_y => unP fun o2_5_y => unP fun o4_y o13_y => K (.tup [.bool (true),.int .i64 (0)]) [.cells [.ifc 27 (.ptr 1 0),.ifc 27 (.ptr 2 0),.int .i64 o0_2,.own 13,.own 14],.cells [.own 5,.own 6,.own 7,.own 8,.int .i64 o1_4_y,.int .i64 o1_5_y],.cells [.own 9,.own 10,.own 11,.own 12,.int .i64 o2_4_y,.int .i64 o2_5_y],.arr (.st (.pair (.int .i64) .str)) o3,.arr (.st (.pair (.int .i64) (.int .i64))) o4_y,.arr (.int .i64) o5,.arr (.int .i64) o6,.arr (.st (.pair (.int .i64) (.int .i64))) o7,.arr (.st (.pair (.int .i64) .str)) o8,.arr (.int .i64) o9,.arr (.int .i64) o10,.arr (.st (.pair (.int .i64) (.int .i64))) o11,.arr (.st (.pair (.int .i64) .str)) o12,.arr (.st (.pair (.int .i64) .str)) o13_y,.arr (.st (.pair (.int .i64) (.int .i64))) ([])]))
theorem fnq2_ok (a : Aq2) (K : AV → List AE.Obj → Ans) : fnE Try.tab envq2 noHint 0 70 10 Try.f10.ntmps Try.f10.results.toList annq2 bq2 (argsq2 a).1 (argsq2 a).2 K = fnq2 a (outq2 a K) := by kernel_rfl
def vFq2 (a : Aq2) (K : AV → List AE.Obj → Ans) : Ans := bindO (fnDq2 a) fun y => outq2 a K y
def Fq2 : List AV → List AE.Obj → (AV → List AE.Obj → Ans) → Ans := fun l H K => bindO (decAq2 l H) fun a => vFq2 a K
theorem Fq2_ok : FuncOk Try.prog 10 Fq2 := func_mkD (hint := noHint) (d := 0) (n := 70) mixed tabOk envq2Ok Try.func10 (bodySome (by kernel_rfl)) (by decide +kernel) annq2_ok decAq2_ok fnq2_ok fnq2_nat
--@ client_Client_Over
noncomputable def envq8 : Env := [(21,.func Fq20),(42,.func Fq28)]
theorem envq8Ok : EnvOk Try.prog envq8 := EnvOk.cons Fq20_ok (EnvOk.cons Fq28_ok (EnvOk.nil))
noncomputable def bq8 : Code := Try.f12.body.getD .skip
noncomputable def Lq8_n0 : Code := codeAt [1,1,1,1,1,1,0,1,0,0] bq8
noncomputable def annLq8_n0 : Ann := .at 100013 [3,28,29,30] (.loop .none)
theorem annLq8_n0_ok : AnnOk Try.prog 47 (.loop Lq8_n0) annLq8_n0 := annOk_at (annOk_none _ _ _)
abbrev Iq8_n0 := (Int) × (Int) × (Int) × (Int) × (List (Int × List UInt8)) × (List Int) × (List Int) × (List (Int × Int)) × (List Int) × (List Int) × (List (Int × Int)) × (List (Int × List UInt8))
abbrev Yq8_n0 := ((Int) × (Int) × (Int) × (List (Int × List UInt8))) ⊕ ((Int) × (Int) × (List (Int × List UInt8)))
abbrev Vq8_n0 := (Int) × (Int) × (Int) × (List (Int × List UInt8))
def Sq8_n0 : Iq8_n0 → Vq8_n0 → St := fun (t29,o0_2,o2_4,o2_5,o13,o15,o16,o17,o19,o20,o21,o22) (t30,o1_4,o1_5,o18) => { env := [(3,.ifc 27 (.ptr 1 0)),(28,.own 13),(29,.int .i64 t29),(30,.int .i64 t30)],stk := [[(0,.ptr 0 0),(1,.ptr 1 0),(2,.ptr 2 0)]],H := [.cells [.ifc 27 (.ptr 1 0),.ifc 27 (.ptr 2 0),.int .i64 o0_2,.own 13,.own 14],.cells [.own 15,.own 16,.own 17,.own 18,.int .i64 o1_4,.int .i64 o1_5],.cells [.own 19,.own 20,.own 21,.own 22,.int .i64 o2_4,.int .i64 o2_5],.dead,.dead,.dead,.dead,.dead,.dead,.dead,.dead,.dead,.dead,.arr (.st (.pair (.int .i64) .str)) o13,.arr (.st (.pair (.int .i64) (.int .i64))) ([]),.arr (.int .i64) o15,.arr (.int .i64) o16,.arr (.st (.pair (.int .i64) (.int .i64))) o17,.arr (.st (.pair (.int .i64) .str)) o18,.arr (.int .i64) o19,.arr (.int .i64) o20,.arr (.st (.pair (.int .i64) (.int .i64))) o21,.arr (.st (.pair (.int .i64) .str)) o22],blk := 49152 }
def decPq8_n0 (s : St) : Option {x : Iq8_n0 × Vq8_n0 // s = Sq8_n0 x.1 x.2} := match s with
  | { env := [(3,.ifc 27 (.ptr 1 0)),(28,.own 13),(29,.int .i64 t29),(30,.int .i64 t30)],stk := [[(0,.ptr 0 0),(1,.ptr 1 0),(2,.ptr 2 0)]],H := [.cells [.ifc 27 (.ptr 1 0),.ifc 27 (.ptr 2 0),.int .i64 o0_2,.own 13,.own 14],.cells [.own 15,.own 16,.own 17,.own 18,.int .i64 o1_4,.int .i64 o1_5],.cells [.own 19,.own 20,.own 21,.own 22,.int .i64 o2_4,.int .i64 o2_5],.dead,.dead,.dead,.dead,.dead,.dead,.dead,.dead,.dead,.dead,.arr (.st (.pair (.int .i64) .str)) o13,.arr (.st (.pair (.int .i64) (.int .i64))) r8,.arr (.int .i64) o15,.arr (.int .i64) o16,.arr (.st (.pair (.int .i64) (.int .i64))) o17,.arr (.st (.pair (.int .i64) .str)) o18,.arr (.int .i64) o19,.arr (.int .i64) o20,.arr (.st (.pair (.int .i64) (.int .i64))) o21,.arr (.st (.pair (.int .i64) .str)) o22],blk := 49152 } => if h8 : r8 = [] then some ⟨((t29,o0_2,o2_4,o2_5,o13,o15,o16,o17,o19,o20,o21,o22),(t30,o1_4,o1_5,o18)),by subst h8; rfl⟩ else none
  | _ => none
def decq8_n0 (s : St) : Option (Iq8_n0 × Vq8_n0) := pk (decPq8_n0 s)
theorem decq8_n0_ok (s : St) (x : Iq8_n0 × Vq8_n0) (h : decq8_n0 s = some x) : s = Sq8_n0 x.1 x.2 := pk_ok (o := decPq8_n0 s) h
def outq8_n0 : Iq8_n0 → (Ex → St → Ans) → Yq8_n0 → Ans := fun (t29,o0_2,o2_4,o2_5,o13,o15,o16,o17,o19,o20,o21,o22) K => (Sum.elim (unP fun t2_y => unP fun o1_4_y => unP fun o1_5_y o18_y => K (Ex.ret) { env := [(2,.int .i64 t2_y)],stk := [[(0,.ptr 0 0),(1,.ptr 1 0),(2,.ptr 2 0)]],H := [.cells [.ifc 27 (.ptr 1 0),.ifc 27 (.ptr 2 0),.int .i64 o0_2,.own 13,.own 14],.cells [.own 15,.own 16,.own 17,.own 18,.int .i64 o1_4_y,.int .i64 o1_5_y],.cells [.own 19,.own 20,.own 21,.own 22,.int .i64 o2_4,.int .i64 o2_5],.dead,.dead,.dead,.dead,.dead,.dead,.dead,.dead,.dead,.dead,.arr (.st (.pair (.int .i64) .str)) o13,.arr (.st (.pair (.int .i64) (.int .i64))) ([]),.arr (.int .i64) o15,.arr (.int .i64) o16,.arr (.st (.pair (.int .i64) (.int .i64))) o17,.arr (.st (.pair (.int .i64) .str)) o18_y,.arr (.int .i64) o19,.arr (.int .i64) o20,.arr (.st (.pair (.int .i64) (.int .i64))) o21,.arr (.st (.pair (.int .i64) .str)) o22],blk := 49153 }) (unP fun o1_4_y => unP fun o1_5_y o18_y => K (Ex.exit 0) { env := [],stk := [[(0,.ptr 0 0),(1,.ptr 1 0),(2,.ptr 2 0)]],H := [.cells [.ifc 27 (.ptr 1 0),.ifc 27 (.ptr 2 0),.int .i64 o0_2,.own 13,.own 14],.cells [.own 15,.own 16,.own 17,.own 18,.int .i64 o1_4_y,.int .i64 o1_5_y],.cells [.own 19,.own 20,.own 21,.own 22,.int .i64 o2_4,.int .i64 o2_5],.dead,.dead,.dead,.dead,.dead,.dead,.dead,.dead,.dead,.dead,.arr (.st (.pair (.int .i64) .str)) o13,.arr (.st (.pair (.int .i64) (.int .i64))) ([]),.arr (.int .i64) o15,.arr (.int .i64) o16,.arr (.st (.pair (.int .i64) (.int .i64))) o17,.arr (.st (.pair (.int .i64) .str)) o18_y,.arr (.int .i64) o19,.arr (.int .i64) o20,.arr (.st (.pair (.int .i64) (.int .i64))) o21,.arr (.st (.pair (.int .i64) .str)) o22],blk := 49152 }))
def stepq8_n0 {β : Type} : Iq8_n0 → Vq8_n0 → (Vq8_n0 → Option β) → (Yq8_n0 → Option β) → Option β := fun (t29,o0_2,o2_4,o2_5,o13,o15,o16,o17,o19,o20,o21,o22) (t30,o1_4,o1_5,o18) next exit => (bif decide (t30 < t29) then (bif inR t30 (List.length o13) then (bindO (o13[Int.toNat t30]?) fun x => (bindO (fnDq28 (x.fst,x.snd,o1_4,o1_5,o15,o16,o17,o18)) (Sum.elim (unP fun r_0_0 => unP fun r_0_1 => unP fun r_1 => unP fun o0_4 => unP fun o0_5 o5 => (bif r_1 != (0 : Int) then (exit (Sum.inl (r_1,o0_4,o0_5,o5))) else (next (IntKind.wrap .i64 (t30 + (1 : Int)),o0_4,o0_5,o5)))) (unP fun r_0_0 => unP fun r_0_1 => unP fun r_1 => unP fun o0_4 o0_5 => (bif r_1 != (0 : Int) then (exit (Sum.inl (r_1,o0_4,o0_5,o18))) else (next (IntKind.wrap .i64 (t30 + (1 : Int)),o0_4,o0_5,o18))))))) else none) else (exit (Sum.inr (o1_4,o1_5,o18))))
def stepDq8_n0 (i : Iq8_n0) (v : Vq8_n0) : Option (Vq8_n0 ⊕ Yq8_n0) := stepq8_n0 i v (fun v => some (.inl v)) (fun y => some (.inr y))
theorem stepq8_n0_nat (i : Iq8_n0) (v : Vq8_n0) (next : Vq8_n0 → Ans) (exit : Yq8_n0 → Ans) : stepq8_n0 i v next exit = bindO (stepDq8_n0 i v) (Sum.elim next exit) := by
  obtain ⟨t29,o0_2,o2_4,o2_5,o13,o15,o16,o17,o19,o20,o21,o22⟩ := i
  obtain ⟨t30,o1_4,o1_5,o18⟩ := v
  simp only [stepDq8_n0,stepq8_n0,bindO_cond,bindO_assoc,bindO_none,bindO_pure,bindO_elim,bindO_unP,bindO_empty,Sum.elim_inl,Sum.elim_inr]
theorem stepq8_n0_ok (n : Nat) (i : Iq8_n0) (v : Vq8_n0) (K : Ex → St → Ans) : codeI Try.tab envq8 noHint (codeD Try.tab envq8 noHint 0 64) (n+1) 47 annLq8_n0 (.loop Lq8_n0) (weakP 100013 (exk [] [2] [(0,[])]) K) (Sq8_n0 i v) = stepq8_n0 i v (fun v' => codeI Try.tab envq8 noHint (codeD Try.tab envq8 noHint 0 64) n 47 annLq8_n0 (.loop Lq8_n0) (weakP 100013 (exk [] [2] [(0,[])]) K) (Sq8_n0 i v')) (fun y => outq8_n0 i K y) := by kernel_rfl
theorem GNq8_n0_ok : CSum Try.prog 47 (.loop Lq8_n0) (sumL decq8_n0 stepDq8_n0 outq8_n0) := csum_loop mixed tabOk envq8Ok 100013 (exk [] [2] [(0,[])]) annLq8_n0_ok decq8_n0_ok stepq8_n0_ok stepq8_n0_nat
abbrev Iq8_n0v1 := (Int) × (Int) × (Int) × (Int) × (List (Int × List UInt8)) × (List Int) × (List Int) × (List (Int × Int)) × (List (Int × List UInt8)) × (List Int) × (List Int) × (List (Int × Int))
abbrev Yq8_n0v1 := ((Int) × (Int) × (Int) × (List (Int × List UInt8))) ⊕ ((Int) × (Int) × (List (Int × List UInt8)))
abbrev Vq8_n0v1 := (Int) × (Int) × (Int) × (List (Int × List UInt8))
def Sq8_n0v1 : Iq8_n0v1 → Vq8_n0v1 → St := fun (t29,o0_2,o1_4,o1_5,o13,o15,o16,o17,o18,o19,o20,o21) (t30,o2_4,o2_5,o22) => { env := [(3,.ifc 27 (.ptr 2 0)),(28,.own 13),(29,.int .i64 t29),(30,.int .i64 t30)],stk := [[(0,.ptr 0 0),(1,.ptr 1 0),(2,.ptr 2 0)]],H := [.cells [.ifc 27 (.ptr 1 0),.ifc 27 (.ptr 2 0),.int .i64 o0_2,.own 13,.own 14],.cells [.own 15,.own 16,.own 17,.own 18,.int .i64 o1_4,.int .i64 o1_5],.cells [.own 19,.own 20,.own 21,.own 22,.int .i64 o2_4,.int .i64 o2_5],.dead,.dead,.dead,.dead,.dead,.dead,.dead,.dead,.dead,.dead,.arr (.st (.pair (.int .i64) .str)) o13,.arr (.st (.pair (.int .i64) (.int .i64))) ([]),.arr (.int .i64) o15,.arr (.int .i64) o16,.arr (.st (.pair (.int .i64) (.int .i64))) o17,.arr (.st (.pair (.int .i64) .str)) o18,.arr (.int .i64) o19,.arr (.int .i64) o20,.arr (.st (.pair (.int .i64) (.int .i64))) o21,.arr (.st (.pair (.int .i64) .str)) o22],blk := 49152 }
def decPq8_n0v1 (s : St) : Option {x : Iq8_n0v1 × Vq8_n0v1 // s = Sq8_n0v1 x.1 x.2} := match s with
  | { env := [(3,.ifc 27 (.ptr 2 0)),(28,.own 13),(29,.int .i64 t29),(30,.int .i64 t30)],stk := [[(0,.ptr 0 0),(1,.ptr 1 0),(2,.ptr 2 0)]],H := [.cells [.ifc 27 (.ptr 1 0),.ifc 27 (.ptr 2 0),.int .i64 o0_2,.own 13,.own 14],.cells [.own 15,.own 16,.own 17,.own 18,.int .i64 o1_4,.int .i64 o1_5],.cells [.own 19,.own 20,.own 21,.own 22,.int .i64 o2_4,.int .i64 o2_5],.dead,.dead,.dead,.dead,.dead,.dead,.dead,.dead,.dead,.dead,.arr (.st (.pair (.int .i64) .str)) o13,.arr (.st (.pair (.int .i64) (.int .i64))) r8,.arr (.int .i64) o15,.arr (.int .i64) o16,.arr (.st (.pair (.int .i64) (.int .i64))) o17,.arr (.st (.pair (.int .i64) .str)) o18,.arr (.int .i64) o19,.arr (.int .i64) o20,.arr (.st (.pair (.int .i64) (.int .i64))) o21,.arr (.st (.pair (.int .i64) .str)) o22],blk := 49152 } => if h8 : r8 = [] then some ⟨((t29,o0_2,o1_4,o1_5,o13,o15,o16,o17,o18,o19,o20,o21),(t30,o2_4,o2_5,o22)),by subst h8; rfl⟩ else none
  | _ => none
def decq8_n0v1 (s : St) : Option (Iq8_n0v1 × Vq8_n0v1) := pk (decPq8_n0v1 s)
theorem decq8_n0v1_ok (s : St) (x : Iq8_n0v1 × Vq8_n0v1) (h : decq8_n0v1 s = some x) : s = Sq8_n0v1 x.1 x.2 := pk_ok (o := decPq8_n0v1 s) h
def outq8_n0v1 : Iq8_n0v1 → (Ex → St → Ans) → Yq8_n0v1 → Ans := fun (t29,o0_2,o1_4,o1_5,o13,o15,o16,o17,o18,o19,o20,o21) K => (Sum.elim (unP fun t2_y => unP fun o2_4_y => unP fun o2_5_y o22_y => K (Ex.ret) { env := [(2,.int .i64 t2_y)],stk := [[(0,.ptr 0 0),(1,.ptr 1 0),(2,.ptr 2 0)]],H := [.cells [.ifc 27 (.ptr 1 0),.ifc 27 (.ptr 2 0),.int .i64 o0_2,.own 13,.own 14],.cells [.own 15,.own 16,.own 17,.own 18,.int .i64 o1_4,.int .i64 o1_5],.cells [.own 19,.own 20,.own 21,.own 22,.int .i64 o2_4_y,.int .i64 o2_5_y],.dead,.dead,.dead,.dead,.dead,.dead,.dead,.dead,.dead,.dead,.arr (.st (.pair (.int .i64) .str)) o13,.arr (.st (.pair (.int .i64) (.int .i64))) ([]),.arr (.int .i64) o15,.arr (.int .i64) o16,.arr (.st (.pair (.int .i64) (.int .i64))) o17,.arr (.st (.pair (.int .i64) .str)) o18,.arr (.int .i64) o19,.arr (.int .i64) o20,.arr (.st (.pair (.int .i64) (.int .i64))) o21,.arr (.st (.pair (.int .i64) .str)) o22_y],blk := 49153 }) (unP fun o2_4_y => unP fun o2_5_y o22_y => K (Ex.exit 0) { env := [],stk := [[(0,.ptr 0 0),(1,.ptr 1 0),(2,.ptr 2 0)]],H := [.cells [.ifc 27 (.ptr 1 0),.ifc 27 (.ptr 2 0),.int .i64 o0_2,.own 13,.own 14],.cells [.own 15,.own 16,.own 17,.own 18,.int .i64 o1_4,.int .i64 o1_5],.cells [.own 19,.own 20,.own 21,.own 22,.int .i64 o2_4_y,.int .i64 o2_5_y],.dead,.dead,.dead,.dead,.dead,.dead,.dead,.dead,.dead,.dead,.arr (.st (.pair (.int .i64) .str)) o13,.arr (.st (.pair (.int .i64) (.int .i64))) ([]),.arr (.int .i64) o15,.arr (.int .i64) o16,.arr (.st (.pair (.int .i64) (.int .i64))) o17,.arr (.st (.pair (.int .i64) .str)) o18,.arr (.int .i64) o19,.arr (.int .i64) o20,.arr (.st (.pair (.int .i64) (.int .i64))) o21,.arr (.st (.pair (.int .i64) .str)) o22_y],blk := 49152 }))
def stepq8_n0v1 {β : Type} : Iq8_n0v1 → Vq8_n0v1 → (Vq8_n0v1 → Option β) → (Yq8_n0v1 → Option β) → Option β := fun (t29,o0_2,o1_4,o1_5,o13,o15,o16,o17,o18,o19,o20,o21) (t30,o2_4,o2_5,o22) next exit => (bif decide (t30 < t29) then (bif inR t30 (List.length o13) then (bindO (o13[Int.toNat t30]?) fun x => (bindO (fnDq28 (x.fst,x.snd,o2_4,o2_5,o19,o20,o21,o22)) (Sum.elim (unP fun r_0_0 => unP fun r_0_1 => unP fun r_1 => unP fun o0_4 => unP fun o0_5 o5 => (bif r_1 != (0 : Int) then (exit (Sum.inl (r_1,o0_4,o0_5,o5))) else (next (IntKind.wrap .i64 (t30 + (1 : Int)),o0_4,o0_5,o5)))) (unP fun r_0_0 => unP fun r_0_1 => unP fun r_1 => unP fun o0_4 o0_5 => (bif r_1 != (0 : Int) then (exit (Sum.inl (r_1,o0_4,o0_5,o22))) else (next (IntKind.wrap .i64 (t30 + (1 : Int)),o0_4,o0_5,o22))))))) else none) else (exit (Sum.inr (o2_4,o2_5,o22))))
def stepDq8_n0v1 (i : Iq8_n0v1) (v : Vq8_n0v1) : Option (Vq8_n0v1 ⊕ Yq8_n0v1) := stepq8_n0v1 i v (fun v => some (.inl v)) (fun y => some (.inr y))
theorem stepq8_n0v1_nat (i : Iq8_n0v1) (v : Vq8_n0v1) (next : Vq8_n0v1 → Ans) (exit : Yq8_n0v1 → Ans) : stepq8_n0v1 i v next exit = bindO (stepDq8_n0v1 i v) (Sum.elim next exit) := by
  obtain ⟨t29,o0_2,o1_4,o1_5,o13,o15,o16,o17,o18,o19,o20,o21⟩ := i
  obtain ⟨t30,o2_4,o2_5,o22⟩ := v
  simp only [stepDq8_n0v1,stepq8_n0v1,bindO_cond,bindO_assoc,bindO_none,bindO_pure,bindO_elim,bindO_unP,bindO_empty,Sum.elim_inl,Sum.elim_inr]
theorem stepq8_n0v1_ok (n : Nat) (i : Iq8_n0v1) (v : Vq8_n0v1) (K : Ex → St → Ans) : codeI Try.tab envq8 noHint (codeD Try.tab envq8 noHint 0 64) (n+1) 47 annLq8_n0 (.loop Lq8_n0) (weakP 100013 (exk [] [2] [(0,[])]) K) (Sq8_n0v1 i v) = stepq8_n0v1 i v (fun v' => codeI Try.tab envq8 noHint (codeD Try.tab envq8 noHint 0 64) n 47 annLq8_n0 (.loop Lq8_n0) (weakP 100013 (exk [] [2] [(0,[])]) K) (Sq8_n0v1 i v')) (fun y => outq8_n0v1 i K y) := by kernel_rfl
theorem GNq8_n0v1_ok : CSum Try.prog 47 (.loop Lq8_n0) (sumL decq8_n0v1 stepDq8_n0v1 outq8_n0v1) := csum_loop mixed tabOk envq8Ok 100013 (exk [] [2] [(0,[])]) annLq8_n0_ok decq8_n0v1_ok stepq8_n0v1_ok stepq8_n0v1_nat
noncomputable def Gq8_n0 : (Ex → St → Ans) → St → Ans := (altN decq8_n0 (sumL decq8_n0 stepDq8_n0 outq8_n0) (sumL decq8_n0v1 stepDq8_n0v1 outq8_n0v1))
theorem Gq8_n0_ok : CSum Try.prog 47 (.loop Lq8_n0) Gq8_n0 := (csum_altN GNq8_n0_ok GNq8_n0v1_ok)
noncomputable def annq8 : Ann := (.seq .none (.seq .none (.seq .none (.seq .none (.seq .none (.seq .none (.seq (.seq .none (.block (.cut 100013 [3,28,29,30] Gq8_n0))) .none)))))))
theorem annq8_ok : AnnOk Try.prog 47 bq8 annq8 := ⟨(annOk_none _ _ _),⟨(annOk_none _ _ _),⟨(annOk_none _ _ _),⟨(annOk_none _ _ _),⟨(annOk_none _ _ _),⟨(annOk_none _ _ _),⟨⟨(annOk_none _ _ _),Gq8_n0_ok⟩,(annOk_none _ _ _)⟩⟩⟩⟩⟩⟩⟩
abbrev Aq8 := (Int) × (Int) × (Int) × (Int) × (Int) × (List (Int × List UInt8)) × (List (Int × Int)) × (List Int) × (List Int) × (List (Int × Int)) × (List (Int × List UInt8)) × (List Int) × (List Int) × (List (Int × Int)) × (List (Int × List UInt8))
abbrev Yq8 := (Int) × (Int) × (Int) × (Int) × (Int) × (Int) × (List (Int × List UInt8)) × (List (Int × List UInt8))
def fnq8 {β : Type} : Aq8 → (Yq8 → Option β) → Option β := fun (o0_2,o1_4,o1_5,o2_4,o2_5,o3,o4,o5,o6,o7,o8,o9,o10,o11,o12) exit => (bindO (fnDq20 (IntKind.wrap .i64 ((1 : Int) - o0_2),o1_4,o1_5,o2_4,o2_5,o3,[],o5,o6,o7,o8,o9,o10,o11,o12)) (Sum.elim (fun _ => (bindO (loopD (stepDq8_n0 ((↑(List.length o3) : Int),IntKind.wrap .i64 ((1 : Int) - o0_2),o2_4,o2_5,o3,o5,o6,o7,o9,o10,o11,o12)) FUEL ((0 : Int),o1_4,o1_5,o8)) (Sum.elim (unP fun t2 => unP fun o1_4_2 => unP fun o1_5_2 o18 => (exit (t2,IntKind.wrap .i64 ((1 : Int) - o0_2),o1_4_2,o1_5_2,o2_4,o2_5,o18,o12))) (unP fun o1_4_2 => unP fun o1_5_2 o18 => (exit ((0 : Int),IntKind.wrap .i64 ((1 : Int) - o0_2),o1_4_2,o1_5_2,o2_4,o2_5,o18,o12)))))) (fun _ => (bindO (loopD (stepDq8_n0v1 ((↑(List.length o3) : Int),IntKind.wrap .i64 ((1 : Int) - o0_2),o1_4,o1_5,o3,o5,o6,o7,o8,o9,o10,o11)) FUEL ((0 : Int),o2_4,o2_5,o12)) (Sum.elim (unP fun t2 => unP fun o2_4_2 => unP fun o2_5_2 o22 => (exit (t2,IntKind.wrap .i64 ((1 : Int) - o0_2),o1_4,o1_5,o2_4_2,o2_5_2,o8,o22))) (unP fun o2_4_2 => unP fun o2_5_2 o22 => (exit ((0 : Int),IntKind.wrap .i64 ((1 : Int) - o0_2),o1_4,o1_5,o2_4_2,o2_5_2,o8,o22))))))))
def fnDq8 (a : Aq8) : Option Yq8 := fnq8 a some
theorem fnq8_nat (a : Aq8) (k : Yq8 → Ans) : fnq8 a k = bindO (fnDq8 a) k := by
  obtain ⟨o0_2,o1_4,o1_5,o2_4,o2_5,o3,o4,o5,o6,o7,o8,o9,o10,o11,o12⟩ := a
  simp only [fnDq8,fnq8,bindO_cond,bindO_assoc,bindO_none,bindO_pure,bindO_elim,bindO_unP,bindO_empty]
def argsq8 : Aq8 → List AV × List AE.Obj := fun (o0_2,o1_4,o1_5,o2_4,o2_5,o3,o4,o5,o6,o7,o8,o9,o10,o11,o12) => ([.ptr 0 0],[.cells [.ifc 27 (.ptr 1 0),.ifc 27 (.ptr 2 0),.int .i64 o0_2,.own 3,.own 4],.cells [.own 5,.own 6,.own 7,.own 8,.int .i64 o1_4,.int .i64 o1_5],.cells [.own 9,.own 10,.own 11,.own 12,.int .i64 o2_4,.int .i64 o2_5],.arr (.st (.pair (.int .i64) .str)) o3,.arr (.st (.pair (.int .i64) (.int .i64))) o4,.arr (.int .i64) o5,.arr (.int .i64) o6,.arr (.st (.pair (.int .i64) (.int .i64))) o7,.arr (.st (.pair (.int .i64) .str)) o8,.arr (.int .i64) o9,.arr (.int .i64) o10,.arr (.st (.pair (.int .i64) (.int .i64))) o11,.arr (.st (.pair (.int .i64) .str)) o12])
def decPAq8 (l : List AV) (H : List AE.Obj) : Option {a : Aq8 // (l,H) = argsq8 a} := match l,H with
  | [.ptr 0 0],[.cells [.ifc 27 (.ptr 1 0),.ifc 27 (.ptr 2 0),.int .i64 o0_2,.own 3,.own 4],.cells [.own 5,.own 6,.own 7,.own 8,.int .i64 o1_4,.int .i64 o1_5],.cells [.own 9,.own 10,.own 11,.own 12,.int .i64 o2_4,.int .i64 o2_5],.arr (.st (.pair (.int .i64) .str)) o3,.arr (.st (.pair (.int .i64) (.int .i64))) o4,.arr (.int .i64) o5,.arr (.int .i64) o6,.arr (.st (.pair (.int .i64) (.int .i64))) o7,.arr (.st (.pair (.int .i64) .str)) o8,.arr (.int .i64) o9,.arr (.int .i64) o10,.arr (.st (.pair (.int .i64) (.int .i64))) o11,.arr (.st (.pair (.int .i64) .str)) o12] => some ⟨(o0_2,o1_4,o1_5,o2_4,o2_5,o3,o4,o5,o6,o7,o8,o9,o10,o11,o12),rfl⟩
  | _,_ => none
def decAq8 (l : List AV) (H : List AE.Obj) : Option Aq8 := pk (decPAq8 l H)
theorem decAq8_ok (l : List AV) (H : List AE.Obj) (a : Aq8) (h : decAq8 l H = some a) : (l,H) = argsq8 a := pk_ok (o := decPAq8 l H) h
def outq8 : Aq8 → (AV → List AE.Obj → Ans) → Yq8 → Ans := fun (o0_2,o1_4,o1_5,o2_4,o2_5,o3,o4,o5,o6,o7,o8,o9,o10,o11,o12) K => unP fun r_y => unP fun o0_2_y => unP fun o1_4_y => unP fun o1_5_y => unP fun o2_4_y => unP fun o2_5_y => unP fun o18_y o22_y => K (.int .i64 r_y) [.cells [.ifc 27 (.ptr 1 0),.ifc 27 (.ptr 2 0),.int .i64 o0_2_y,.own 13,.own 14],.cells [.own 15,.own 16,.own 17,.own 18,.int .i64 o1_4_y,.int .i64 o1_5_y],.cells [.own 19,.own 20,.own 21,.own 22,.int .i64 o2_4_y,.int .i64 o2_5_y],.dead,.dead,.dead,.dead,.dead,.dead,.dead,.dead,.dead,.dead,.arr (.st (.pair (.int .i64) .str)) o3,.arr (.st (.pair (.int .i64) (.int .i64))) ([]),.arr (.int .i64) o5,.arr (.int .i64) o6,.arr (.st (.pair (.int .i64) (.int .i64))) o7,.arr (.st (.pair (.int .i64) .str)) o18_y,.arr (.int .i64) o9,.arr (.int .i64) o10,.arr (.st (.pair (.int .i64) (.int .i64))) o11,.arr (.st (.pair (.int .i64) .str)) o22_y]
theorem fnq8_ok (a : Aq8) (K : AV → List AE.Obj → Ans) : fnE Try.tab envq8 noHint 0 70 12 Try.f12.ntmps Try.f12.results.toList annq8 bq8 (argsq8 a).1 (argsq8 a).2 K = fnq8 a (outq8 a K) := by kernel_rfl
def vFq8 (a : Aq8) (K : AV → List AE.Obj → Ans) : Ans := bindO (fnDq8 a) fun y => outq8 a K y
def Fq8 : List AV → List AE.Obj → (AV → List AE.Obj → Ans) → Ans := fun l H K => bindO (decAq8 l H) fun a => vFq8 a K
theorem Fq8_ok : FuncOk Try.prog 12 Fq8 := func_mkD (hint := noHint) (d := 0) (n := 70) mixed tabOk envq8Ok Try.func12 (bodySome (by kernel_rfl)) (by decide +kernel) annq8_ok decAq8_ok fnq8_ok fnq8_nat
--@ law44_Tape_Read
noncomputable def envq27 : Env := []
theorem envq27Ok : EnvOk Try.prog envq27 := EnvOk.nil
noncomputable def bq27 : Code := Try.f41.body.getD .skip
noncomputable def Lq27_n0 : Code := codeAt [1,0,1,0,0] bq27
noncomputable def annLq27_n0 : Ann := .at 5 [0,1,6] (.loop .none)
theorem annLq27_n0_ok : AnnOk Try.prog 35 (.loop Lq27_n0) annLq27_n0 := annOk_at (annOk_none _ _ _)
abbrev Iq27_n0 := (Int) × (Int) × (Int) × (List Int) × (List Int) × (List (Int × Int)) × (List (Int × List UInt8))
abbrev Yq27_n0 := ((List UInt8)) ⊕ (Unit)
abbrev Vq27_n0 := (Int)
def Sq27_n0 : Iq27_n0 → Vq27_n0 → St := fun (t1,o0_4,o0_5,o1,o2,o3,o4) t6 => { env := [(0,.ptr 0 0),(1,.int .i64 t1),(6,.int .i64 t6)],stk := [[(0,.ptr 0 0)]],H := [.cells [.own 1,.own 2,.own 3,.own 4,.int .i64 o0_4,.int .i64 o0_5],.arr (.int .i64) o1,.arr (.int .i64) o2,.arr (.st (.pair (.int .i64) (.int .i64))) o3,.arr (.st (.pair (.int .i64) .str)) o4],blk := 167936 }
def decPq27_n0 (s : St) : Option {x : Iq27_n0 × Vq27_n0 // s = Sq27_n0 x.1 x.2} := match s with
  | { env := [(0,.ptr 0 0),(1,.int .i64 t1),(6,.int .i64 t6)],stk := [[(0,.ptr 0 0)]],H := [.cells [.own 1,.own 2,.own 3,.own 4,.int .i64 o0_4,.int .i64 o0_5],.arr (.int .i64) o1,.arr (.int .i64) o2,.arr (.st (.pair (.int .i64) (.int .i64))) o3,.arr (.st (.pair (.int .i64) .str)) o4],blk := 167936 } => some ⟨((t1,o0_4,o0_5,o1,o2,o3,o4),t6),rfl⟩
  | _ => none
def decq27_n0 (s : St) : Option (Iq27_n0 × Vq27_n0) := pk (decPq27_n0 s)
theorem decq27_n0_ok (s : St) (x : Iq27_n0 × Vq27_n0) (h : decq27_n0 s = some x) : s = Sq27_n0 x.1 x.2 := pk_ok (o := decPq27_n0 s) h
def outq27_n0 : Iq27_n0 → (Ex → St → Ans) → Yq27_n0 → Ans := fun (t1,o0_4,o0_5,o1,o2,o3,o4) K => (Sum.elim (fun t4_y => K (Ex.ret) { env := [(4,.str t4_y),(5,.int .i64 (0))],stk := [[(0,.ptr 0 0)]],H := [.cells [.own 1,.own 2,.own 3,.own 4,.int .i64 o0_4,.int .i64 o0_5],.arr (.int .i64) o1,.arr (.int .i64) o2,.arr (.st (.pair (.int .i64) (.int .i64))) o3,.arr (.st (.pair (.int .i64) .str)) o4],blk := 167937 }) (fun _ => K (Ex.exit 0) { env := [],stk := [[(0,.ptr 0 0)]],H := [.cells [.own 1,.own 2,.own 3,.own 4,.int .i64 o0_4,.int .i64 o0_5],.arr (.int .i64) o1,.arr (.int .i64) o2,.arr (.st (.pair (.int .i64) (.int .i64))) o3,.arr (.st (.pair (.int .i64) .str)) o4],blk := 167936 }))
def stepq27_n0 {β : Type} : Iq27_n0 → Vq27_n0 → (Vq27_n0 → Option β) → (Yq27_n0 → Option β) → Option β := fun (t1,o0_4,o0_5,o1,o2,o3,o4) t6 next exit => (bif decide (t6 ≥ (0 : Int)) then (bif inR t6 (List.length o4) then (bindO (o4[Int.toNat t6]?) fun x => (bif x.fst == t1 then (bif inR t6 (List.length o4) then (bindO (o4[Int.toNat t6]?) fun x_2 => (exit (Sum.inl (x_2.snd)))) else none) else (next (IntKind.wrap .i64 (t6 - (1 : Int)))))) else none) else (exit (Sum.inr ())))
def stepDq27_n0 (i : Iq27_n0) (v : Vq27_n0) : Option (Vq27_n0 ⊕ Yq27_n0) := stepq27_n0 i v (fun v => some (.inl v)) (fun y => some (.inr y))
theorem stepq27_n0_nat (i : Iq27_n0) (v : Vq27_n0) (next : Vq27_n0 → Ans) (exit : Yq27_n0 → Ans) : stepq27_n0 i v next exit = bindO (stepDq27_n0 i v) (Sum.elim next exit) := by
  obtain ⟨t1,o0_4,o0_5,o1,o2,o3,o4⟩ := i
  obtain z := v
  simp only [stepDq27_n0,stepq27_n0,bindO_cond,bindO_assoc,bindO_none,bindO_pure,bindO_elim,bindO_unP,bindO_empty,Sum.elim_inl,Sum.elim_inr]
theorem stepq27_n0_ok (n : Nat) (i : Iq27_n0) (v : Vq27_n0) (K : Ex → St → Ans) : codeI Try.tab envq27 noHint (codeD Try.tab envq27 noHint 0 64) (n+1) 35 annLq27_n0 (.loop Lq27_n0) (weakP 5 (exk [] [4,5] [(0,[])]) K) (Sq27_n0 i v) = stepq27_n0 i v (fun v' => codeI Try.tab envq27 noHint (codeD Try.tab envq27 noHint 0 64) n 35 annLq27_n0 (.loop Lq27_n0) (weakP 5 (exk [] [4,5] [(0,[])]) K) (Sq27_n0 i v')) (fun y => outq27_n0 i K y) := by kernel_rfl
theorem GNq27_n0_ok : CSum Try.prog 35 (.loop Lq27_n0) (sumL decq27_n0 stepDq27_n0 outq27_n0) := csum_loop mixed tabOk envq27Ok 5 (exk [] [4,5] [(0,[])]) annLq27_n0_ok decq27_n0_ok stepq27_n0_ok stepq27_n0_nat
noncomputable def Gq27_n0 : (Ex → St → Ans) → St → Ans := (sumL decq27_n0 stepDq27_n0 outq27_n0)
theorem Gq27_n0_ok : CSum Try.prog 35 (.loop Lq27_n0) Gq27_n0 := GNq27_n0_ok
noncomputable def annq27 : Ann := (.seq .none (.seq (.seq .none (.block (.cut 5 [0,1,6] Gq27_n0))) .none))
theorem annq27_ok : AnnOk Try.prog 35 bq27 annq27 := ⟨(annOk_none _ _ _),⟨⟨(annOk_none _ _ _),Gq27_n0_ok⟩,(annOk_none _ _ _)⟩⟩
abbrev Aq27 := (Int) × (Int) × (Int) × (List Int) × (List Int) × (List (Int × Int)) × (List (Int × List UInt8))
abbrev Yq27 := (List UInt8) × (Int)
def fnq27 {β : Type} : Aq27 → (Yq27 → Option β) → Option β := fun (a1,o0_4,o0_5,o1,o2,o3,o4) exit => (bindO (loopD (stepDq27_n0 (a1,o0_4,o0_5,o1,o2,o3,o4)) FUEL (IntKind.wrap .i64 ((↑(List.length o4) : Int) - (1 : Int)))) (Sum.elim (fun t4 => (exit (t4,(0 : Int)))) (fun _ => (exit ([],(3 : Int))))))
def fnDq27 (a : Aq27) : Option Yq27 := fnq27 a some
theorem fnq27_nat (a : Aq27) (k : Yq27 → Ans) : fnq27 a k = bindO (fnDq27 a) k := by
  obtain ⟨a1,o0_4,o0_5,o1,o2,o3,o4⟩ := a
  simp only [fnDq27,fnq27,bindO_cond,bindO_assoc,bindO_none,bindO_pure,bindO_elim,bindO_unP,bindO_empty]
def argsq27 : Aq27 → List AV × List AE.Obj := fun (a1,o0_4,o0_5,o1,o2,o3,o4) => ([.ptr 0 0,.int .i64 a1],[.cells [.own 1,.own 2,.own 3,.own 4,.int .i64 o0_4,.int .i64 o0_5],.arr (.int .i64) o1,.arr (.int .i64) o2,.arr (.st (.pair (.int .i64) (.int .i64))) o3,.arr (.st (.pair (.int .i64) .str)) o4])
def decPAq27 (l : List AV) (H : List AE.Obj) : Option {a : Aq27 // (l,H) = argsq27 a} := match l,H with
  | [.ptr 0 0,.int .i64 a1],[.cells [.own 1,.own 2,.own 3,.own 4,.int .i64 o0_4,.int .i64 o0_5],.arr (.int .i64) o1,.arr (.int .i64) o2,.arr (.st (.pair (.int .i64) (.int .i64))) o3,.arr (.st (.pair (.int .i64) .str)) o4] => some ⟨(a1,o0_4,o0_5,o1,o2,o3,o4),rfl⟩
  | _,_ => none
def decAq27 (l : List AV) (H : List AE.Obj) : Option Aq27 := pk (decPAq27 l H)
theorem decAq27_ok (l : List AV) (H : List AE.Obj) (a : Aq27) (h : decAq27 l H = some a) : (l,H) = argsq27 a := pk_ok (o := decPAq27 l H) h
def outq27 : Aq27 → (AV → List AE.Obj → Ans) → Yq27 → Ans := fun (a1,o0_4,o0_5,o1,o2,o3,o4) K => unP fun r_0_y r_1_y => K (.tup [.str r_0_y,.int .i64 r_1_y]) [.cells [.own 1,.own 2,.own 3,.own 4,.int .i64 o0_4,.int .i64 o0_5],.arr (.int .i64) o1,.arr (.int .i64) o2,.arr (.st (.pair (.int .i64) (.int .i64))) o3,.arr (.st (.pair (.int .i64) .str)) o4]
theorem fnq27_ok (a : Aq27) (K : AV → List AE.Obj → Ans) : fnE Try.tab envq27 noHint 0 70 41 Try.f41.ntmps Try.f41.results.toList annq27 bq27 (argsq27 a).1 (argsq27 a).2 K = fnq27 a (outq27 a K) := by kernel_rfl
def vFq27 (a : Aq27) (K : AV → List AE.Obj → Ans) : Ans := bindO (fnDq27 a) fun y => outq27 a K y
def Fq27 : List AV → List AE.Obj → (AV → List AE.Obj → Ans) → Ans := fun l H K => bindO (decAq27 l H) fun a => vFq27 a K
theorem Fq27_ok : FuncOk Try.prog 41 Fq27 := func_mkD (hint := noHint) (d := 0) (n := 70) mixed tabOk envq27Ok Try.func41 (bodySome (by kernel_rfl)) (by decide +kernel) annq27_ok decAq27_ok fnq27_ok fnq27_nat
--@ client_Client_Read
noncomputable def envq13 : Env := [(21,.func Fq20),(41,.func Fq27)]
theorem envq13Ok : EnvOk Try.prog envq13 := EnvOk.cons Fq20_ok (EnvOk.cons Fq27_ok (EnvOk.nil))
noncomputable def bq13 : Code := Try.f20.body.getD .skip
noncomputable def annq13 : Ann := .none
theorem annq13_ok : AnnOk Try.prog 16 bq13 annq13 := (annOk_none _ _ _)
abbrev Aq13 := (Int) × (Int) × (Int) × (Int) × (Int) × (Int) × (List (Int × List UInt8)) × (List (Int × Int)) × (List Int) × (List Int) × (List (Int × Int)) × (List (Int × List UInt8)) × (List Int) × (List Int) × (List (Int × Int)) × (List (Int × List UInt8))
abbrev Yq13 := (List UInt8) × (Int)
def fnq13 {β : Type} : Aq13 → (Yq13 → Option β) → Option β := fun (a1,o0_2,o1_4,o1_5,o2_4,o2_5,o3,o4,o5,o6,o7,o8,o9,o10,o11,o12) exit => (bindO (fnDq20 (o0_2,o1_4,o1_5,o2_4,o2_5,o3,o4,o5,o6,o7,o8,o9,o10,o11,o12)) (Sum.elim (fun _ => (bindO (fnDq27 (a1,o1_4,o1_5,o5,o6,o7,o8)) (unP fun r_0 r_1 => (exit (r_0,r_1))))) (fun _ => (bindO (fnDq27 (a1,o2_4,o2_5,o9,o10,o11,o12)) (unP fun r_0 r_1 => (exit (r_0,r_1)))))))
def fnDq13 (a : Aq13) : Option Yq13 := fnq13 a some
theorem fnq13_nat (a : Aq13) (k : Yq13 → Ans) : fnq13 a k = bindO (fnDq13 a) k := by
  obtain ⟨a1,o0_2,o1_4,o1_5,o2_4,o2_5,o3,o4,o5,o6,o7,o8,o9,o10,o11,o12⟩ := a
  simp only [fnDq13,fnq13,bindO_cond,bindO_assoc,bindO_none,bindO_pure,bindO_elim,bindO_unP,bindO_empty]
def argsq13 : Aq13 → List AV × List AE.Obj := fun (a1,o0_2,o1_4,o1_5,o2_4,o2_5,o3,o4,o5,o6,o7,o8,o9,o10,o11,o12) => ([.ptr 0 0,.int .i64 a1],[.cells [.ifc 27 (.ptr 1 0),.ifc 27 (.ptr 2 0),.int .i64 o0_2,.own 3,.own 4],.cells [.own 5,.own 6,.own 7,.own 8,.int .i64 o1_4,.int .i64 o1_5],.cells [.own 9,.own 10,.own 11,.own 12,.int .i64 o2_4,.int .i64 o2_5],.arr (.st (.pair (.int .i64) .str)) o3,.arr (.st (.pair (.int .i64) (.int .i64))) o4,.arr (.int .i64) o5,.arr (.int .i64) o6,.arr (.st (.pair (.int .i64) (.int .i64))) o7,.arr (.st (.pair (.int .i64) .str)) o8,.arr (.int .i64) o9,.arr (.int .i64) o10,.arr (.st (.pair (.int .i64) (.int .i64))) o11,.arr (.st (.pair (.int .i64) .str)) o12])
def decPAq13 (l : List AV) (H : List AE.Obj) : Option {a : Aq13 // (l,H) = argsq13 a} := match l,H with
  | [.ptr 0 0,.int .i64 a1],[.cells [.ifc 27 (.ptr 1 0),.ifc 27 (.ptr 2 0),.int .i64 o0_2,.own 3,.own 4],.cells [.own 5,.own 6,.own 7,.own 8,.int .i64 o1_4,.int .i64 o1_5],.cells [.own 9,.own 10,.own 11,.own 12,.int .i64 o2_4,.int .i64 o2_5],.arr (.st (.pair (.int .i64) .str)) o3,.arr (.st (.pair (.int .i64) (.int .i64))) o4,.arr (.int .i64) o5,.arr (.int .i64) o6,.arr (.st (.pair (.int .i64) (.int .i64))) o7,.arr (.st (.pair (.int .i64) .str)) o8,.arr (.int .i64) o9,.arr (.int .i64) o10,.arr (.st (.pair (.int .i64) (.int .i64))) o11,.arr (.st (.pair (.int .i64) .str)) o12] => some ⟨(a1,o0_2,o1_4,o1_5,o2_4,o2_5,o3,o4,o5,o6,o7,o8,o9,o10,o11,o12),rfl⟩
  | _,_ => none
def decAq13 (l : List AV) (H : List AE.Obj) : Option Aq13 := pk (decPAq13 l H)
theorem decAq13_ok (l : List AV) (H : List AE.Obj) (a : Aq13) (h : decAq13 l H = some a) : (l,H) = argsq13 a := pk_ok (o := decPAq13 l H) h
def outq13 : Aq13 → (AV → List AE.Obj → Ans) → Yq13 → Ans := fun (a1,o0_2,o1_4,o1_5,o2_4,o2_5,o3,o4,o5,o6,o7,o8,o9,o10,o11,o12) K => unP fun r_0_y r_1_y => K (.tup [.str r_0_y,.int .i64 r_1_y]) [.cells [.ifc 27 (.ptr 1 0),.ifc 27 (.ptr 2 0),.int .i64 o0_2,.own 3,.own 4],.cells [.own 5,.own 6,.own 7,.own 8,.int .i64 o1_4,.int .i64 o1_5],.cells [.own 9,.own 10,.own 11,.own 12,.int .i64 o2_4,.int .i64 o2_5],.arr (.st (.pair (.int .i64) .str)) o3,.arr (.st (.pair (.int .i64) (.int .i64))) o4,.arr (.int .i64) o5,.arr (.int .i64) o6,.arr (.st (.pair (.int .i64) (.int .i64))) o7,.arr (.st (.pair (.int .i64) .str)) o8,.arr (.int .i64) o9,.arr (.int .i64) o10,.arr (.st (.pair (.int .i64) (.int .i64))) o11,.arr (.st (.pair (.int .i64) .str)) o12]
theorem fnq13_ok (a : Aq13) (K : AV → List AE.Obj → Ans) : fnE Try.tab envq13 noHint 0 70 20 Try.f20.ntmps Try.f20.results.toList annq13 bq13 (argsq13 a).1 (argsq13 a).2 K = fnq13 a (outq13 a K) := by kernel_rfl
def vFq13 (a : Aq13) (K : AV → List AE.Obj → Ans) : Ans := bindO (fnDq13 a) fun y => outq13 a K y
def Fq13 : List AV → List AE.Obj → (AV → List AE.Obj → Ans) → Ans := fun l H K => bindO (decAq13 l H) fun a => vFq13 a K
theorem Fq13_ok : FuncOk Try.prog 20 Fq13 := func_mkD (hint := noHint) (d := 0) (n := 70) mixed tabOk envq13Ok Try.func20 (bodySome (by kernel_rfl)) (by decide +kernel) annq13_ok decAq13_ok fnq13_ok fnq13_nat
--@ client_Client_At
noncomputable def envq0 : Env := []
theorem envq0Ok : EnvOk Try.prog envq0 := EnvOk.nil
noncomputable def bq0 : Code := Try.f13.body.getD .skip
noncomputable def annq0 : Ann := .none
theorem annq0_ok : AnnOk Try.prog 9 bq0 annq0 := (annOk_none _ _ _)
abbrev Aq0 := (Int) × (Int) × (Int) × (Int) × (Int) × (List (Int × List UInt8)) × (List (Int × Int)) × (List Int) × (List Int) × (List (Int × Int)) × (List (Int × List UInt8)) × (List Int) × (List Int) × (List (Int × Int)) × (List (Int × List UInt8))
abbrev Yq0 := Unit
def fnq0 {β : Type} : Aq0 → (Yq0 → Option β) → Option β := fun (o0_2,o1_4,o1_5,o2_4,o2_5,o3,o4,o5,o6,o7,o8,o9,o10,o11,o12) exit => (exit ())
def fnDq0 (a : Aq0) : Option Yq0 := fnq0 a some
theorem fnq0_nat (a : Aq0) (k : Yq0 → Ans) : fnq0 a k = bindO (fnDq0 a) k := by
  obtain ⟨o0_2,o1_4,o1_5,o2_4,o2_5,o3,o4,o5,o6,o7,o8,o9,o10,o11,o12⟩ := a
  simp only [fnDq0,fnq0,bindO_cond,bindO_assoc,bindO_none,bindO_pure,bindO_elim,bindO_unP,bindO_empty]
def argsq0 : Aq0 → List AV × List AE.Obj := fun (o0_2,o1_4,o1_5,o2_4,o2_5,o3,o4,o5,o6,o7,o8,o9,o10,o11,o12) => ([.ptr 0 0],[.cells [.ifc 27 (.ptr 1 0),.ifc 27 (.ptr 2 0),.int .i64 o0_2,.own 3,.own 4],.cells [.own 5,.own 6,.own 7,.own 8,.int .i64 o1_4,.int .i64 o1_5],.cells [.own 9,.own 10,.own 11,.own 12,.int .i64 o2_4,.int .i64 o2_5],.arr (.st (.pair (.int .i64) .str)) o3,.arr (.st (.pair (.int .i64) (.int .i64))) o4,.arr (.int .i64) o5,.arr (.int .i64) o6,.arr (.st (.pair (.int .i64) (.int .i64))) o7,.arr (.st (.pair (.int .i64) .str)) o8,.arr (.int .i64) o9,.arr (.int .i64) o10,.arr (.st (.pair (.int .i64) (.int .i64))) o11,.arr (.st (.pair (.int .i64) .str)) o12])
def decPAq0 (l : List AV) (H : List AE.Obj) : Option {a : Aq0 // (l,H) = argsq0 a} := match l,H with
  | [.ptr 0 0],[.cells [.ifc 27 (.ptr 1 0),.ifc 27 (.ptr 2 0),.int .i64 o0_2,.own 3,.own 4],.cells [.own 5,.own 6,.own 7,.own 8,.int .i64 o1_4,.int .i64 o1_5],.cells [.own 9,.own 10,.own 11,.own 12,.int .i64 o2_4,.int .i64 o2_5],.arr (.st (.pair (.int .i64) .str)) o3,.arr (.st (.pair (.int .i64) (.int .i64))) o4,.arr (.int .i64) o5,.arr (.int .i64) o6,.arr (.st (.pair (.int .i64) (.int .i64))) o7,.arr (.st (.pair (.int .i64) .str)) o8,.arr (.int .i64) o9,.arr (.int .i64) o10,.arr (.st (.pair (.int .i64) (.int .i64))) o11,.arr (.st (.pair (.int .i64) .str)) o12] => some ⟨(o0_2,o1_4,o1_5,o2_4,o2_5,o3,o4,o5,o6,o7,o8,o9,o10,o11,o12),rfl⟩
  | _,_ => none
def decAq0 (l : List AV) (H : List AE.Obj) : Option Aq0 := pk (decPAq0 l H)
theorem decAq0_ok (l : List AV) (H : List AE.Obj) (a : Aq0) (h : decAq0 l H = some a) : (l,H) = argsq0 a := pk_ok (o := decPAq0 l H) h
def outq0 : Aq0 → (AV → List AE.Obj → Ans) → Yq0 → Ans := fun (o0_2,o1_4,o1_5,o2_4,o2_5,o3,o4,o5,o6,o7,o8,o9,o10,o11,o12) K => fun _ => K (.int .i64 o0_2) [.cells [.ifc 27 (.ptr 1 0),.ifc 27 (.ptr 2 0),.int .i64 o0_2,.own 3,.own 4],.cells [.own 5,.own 6,.own 7,.own 8,.int .i64 o1_4,.int .i64 o1_5],.cells [.own 9,.own 10,.own 11,.own 12,.int .i64 o2_4,.int .i64 o2_5],.arr (.st (.pair (.int .i64) .str)) o3,.arr (.st (.pair (.int .i64) (.int .i64))) o4,.arr (.int .i64) o5,.arr (.int .i64) o6,.arr (.st (.pair (.int .i64) (.int .i64))) o7,.arr (.st (.pair (.int .i64) .str)) o8,.arr (.int .i64) o9,.arr (.int .i64) o10,.arr (.st (.pair (.int .i64) (.int .i64))) o11,.arr (.st (.pair (.int .i64) .str)) o12]
theorem fnq0_ok (a : Aq0) (K : AV → List AE.Obj → Ans) : fnE Try.tab envq0 noHint 0 70 13 Try.f13.ntmps Try.f13.results.toList annq0 bq0 (argsq0 a).1 (argsq0 a).2 K = fnq0 a (outq0 a K) := by kernel_rfl
def vFq0 (a : Aq0) (K : AV → List AE.Obj → Ans) : Ans := bindO (fnDq0 a) fun y => outq0 a K y
def Fq0 : List AV → List AE.Obj → (AV → List AE.Obj → Ans) → Ans := fun l H K => bindO (decAq0 l H) fun a => vFq0 a K
theorem Fq0_ok : FuncOk Try.prog 13 Fq0 := func_mkD (hint := noHint) (d := 0) (n := 70) mixed tabOk envq0Ok Try.func13 (bodySome (by kernel_rfl)) (by decide +kernel) annq0_ok decAq0_ok fnq0_ok fnq0_nat
--@ client_Client_Kept
noncomputable def envq5 : Env := []
theorem envq5Ok : EnvOk Try.prog envq5 := EnvOk.nil
noncomputable def bq5 : Code := Try.f11.body.getD .skip
noncomputable def annq5 : Ann := .none
theorem annq5_ok : AnnOk Try.prog 19 bq5 annq5 := (annOk_none _ _ _)
abbrev Aq5 := (Int) × (Int) × (Int) × (Int) × (Int) × (List (Int × List UInt8)) × (List (Int × Int)) × (List Int) × (List Int) × (List (Int × Int)) × (List (Int × List UInt8)) × (List Int) × (List Int) × (List (Int × Int)) × (List (Int × List UInt8))
abbrev Yq5 := (List (Int × List UInt8))
def fnq5 {β : Type} : Aq5 → (Yq5 → Option β) → Option β := fun (o0_2,o1_4,o1_5,o2_4,o2_5,o3,o4,o5,o6,o7,o8,o9,o10,o11,o12) exit => (bif decide ((0 : Int) ≤ (↑(List.length o3) : Int)) && decide ((↑(List.length o3) : Int) ≤ (↑(List.length o3) : Int)) && decide ((24 : Int) * (↑(List.length o3) : Int) ≤ (281474976710656 : Int)) && decide ((↑(List.length o3) : Int) ≤ (9223372036854775807 : Int)) then (exit (List.take (List.length (List.replicate (Int.toNat (↑(List.length o3) : Int)) ((0 : Int),nilL UInt8))) o3 ++ List.drop (List.length o3) (List.replicate (Int.toNat (↑(List.length o3) : Int)) ((0 : Int),nilL UInt8)))) else none)
def fnDq5 (a : Aq5) : Option Yq5 := fnq5 a some
theorem fnq5_nat (a : Aq5) (k : Yq5 → Ans) : fnq5 a k = bindO (fnDq5 a) k := by
  obtain ⟨o0_2,o1_4,o1_5,o2_4,o2_5,o3,o4,o5,o6,o7,o8,o9,o10,o11,o12⟩ := a
  simp only [fnDq5,fnq5,bindO_cond,bindO_assoc,bindO_none,bindO_pure,bindO_elim,bindO_unP,bindO_empty]
def argsq5 : Aq5 → List AV × List AE.Obj := fun (o0_2,o1_4,o1_5,o2_4,o2_5,o3,o4,o5,o6,o7,o8,o9,o10,o11,o12) => ([.ptr 0 0],[.cells [.ifc 27 (.ptr 1 0),.ifc 27 (.ptr 2 0),.int .i64 o0_2,.own 3,.own 4],.cells [.own 5,.own 6,.own 7,.own 8,.int .i64 o1_4,.int .i64 o1_5],.cells [.own 9,.own 10,.own 11,.own 12,.int .i64 o2_4,.int .i64 o2_5],.arr (.st (.pair (.int .i64) .str)) o3,.arr (.st (.pair (.int .i64) (.int .i64))) o4,.arr (.int .i64) o5,.arr (.int .i64) o6,.arr (.st (.pair (.int .i64) (.int .i64))) o7,.arr (.st (.pair (.int .i64) .str)) o8,.arr (.int .i64) o9,.arr (.int .i64) o10,.arr (.st (.pair (.int .i64) (.int .i64))) o11,.arr (.st (.pair (.int .i64) .str)) o12])
def decPAq5 (l : List AV) (H : List AE.Obj) : Option {a : Aq5 // (l,H) = argsq5 a} := match l,H with
  | [.ptr 0 0],[.cells [.ifc 27 (.ptr 1 0),.ifc 27 (.ptr 2 0),.int .i64 o0_2,.own 3,.own 4],.cells [.own 5,.own 6,.own 7,.own 8,.int .i64 o1_4,.int .i64 o1_5],.cells [.own 9,.own 10,.own 11,.own 12,.int .i64 o2_4,.int .i64 o2_5],.arr (.st (.pair (.int .i64) .str)) o3,.arr (.st (.pair (.int .i64) (.int .i64))) o4,.arr (.int .i64) o5,.arr (.int .i64) o6,.arr (.st (.pair (.int .i64) (.int .i64))) o7,.arr (.st (.pair (.int .i64) .str)) o8,.arr (.int .i64) o9,.arr (.int .i64) o10,.arr (.st (.pair (.int .i64) (.int .i64))) o11,.arr (.st (.pair (.int .i64) .str)) o12] => some ⟨(o0_2,o1_4,o1_5,o2_4,o2_5,o3,o4,o5,o6,o7,o8,o9,o10,o11,o12),rfl⟩
  | _,_ => none
def decAq5 (l : List AV) (H : List AE.Obj) : Option Aq5 := pk (decPAq5 l H)
theorem decAq5_ok (l : List AV) (H : List AE.Obj) (a : Aq5) (h : decAq5 l H = some a) : (l,H) = argsq5 a := pk_ok (o := decPAq5 l H) h
def outq5 : Aq5 → (AV → List AE.Obj → Ans) → Yq5 → Ans := fun (o0_2,o1_4,o1_5,o2_4,o2_5,o3,o4,o5,o6,o7,o8,o9,o10,o11,o12) K => fun o13_y => K (.own 13) [.cells [.ifc 27 (.ptr 1 0),.ifc 27 (.ptr 2 0),.int .i64 o0_2,.own 3,.own 4],.cells [.own 5,.own 6,.own 7,.own 8,.int .i64 o1_4,.int .i64 o1_5],.cells [.own 9,.own 10,.own 11,.own 12,.int .i64 o2_4,.int .i64 o2_5],.arr (.st (.pair (.int .i64) .str)) o3,.arr (.st (.pair (.int .i64) (.int .i64))) o4,.arr (.int .i64) o5,.arr (.int .i64) o6,.arr (.st (.pair (.int .i64) (.int .i64))) o7,.arr (.st (.pair (.int .i64) .str)) o8,.arr (.int .i64) o9,.arr (.int .i64) o10,.arr (.st (.pair (.int .i64) (.int .i64))) o11,.arr (.st (.pair (.int .i64) .str)) o12,.arr (.st (.pair (.int .i64) .str)) o13_y]
theorem fnq5_ok (a : Aq5) (K : AV → List AE.Obj → Ans) : fnE Try.tab envq5 noHint 0 70 11 Try.f11.ntmps Try.f11.results.toList annq5 bq5 (argsq5 a).1 (argsq5 a).2 K = fnq5 a (outq5 a K) := by kernel_rfl
def vFq5 (a : Aq5) (K : AV → List AE.Obj → Ans) : Ans := bindO (fnDq5 a) fun y => outq5 a K y
def Fq5 : List AV → List AE.Obj → (AV → List AE.Obj → Ans) → Ans := fun l H K => bindO (decAq5 l H) fun a => vFq5 a K
theorem Fq5_ok : FuncOk Try.prog 11 Fq5 := func_mkD (hint := noHint) (d := 0) (n := 70) mixed tabOk envq5Ok Try.func11 (bodySome (by kernel_rfl)) (by decide +kernel) annq5_ok decAq5_ok fnq5_ok fnq5_nat
--@ law44_works
noncomputable def envq30 : Env := [(8,.func Fq23),(9,.func Fq16),(10,.func Fq2),(12,.func Fq8),(20,.func Fq13),(13,.func Fq0),(11,.func Fq5)]
theorem envq30Ok : EnvOk Try.prog envq30 := EnvOk.cons Fq23_ok (EnvOk.cons Fq16_ok (EnvOk.cons Fq2_ok (EnvOk.cons Fq8_ok (EnvOk.cons Fq13_ok (EnvOk.cons Fq0_ok (EnvOk.cons Fq5_ok (EnvOk.nil)))))))
noncomputable def bq30 : Code := Try.f6.body.getD .skip
noncomputable def Lq30_n0 : Code := codeAt [1,1,1,1,1,1,1,0] bq30
noncomputable def annLq30_n0 : Ann := .none
theorem annLq30_n0_ok : AnnOk Try.prog 75 Lq30_n0 annLq30_n0 := (annOk_none _ _ _)
abbrev Iq30_n0 := (Int) × (Bool) × (Int) × (Int) × (List UInt8) × (Int) × (Int) × (Int) × (Int) × (List (Int × List UInt8)) × (Int) × (Int) × (List (Int × List UInt8)) × (List (Int × List UInt8))
abbrev Yq30_n0 := (Bool)
def Sq30_n0 : Iq30_n0 → St := fun (t4,t5,t6,t7,t8,t9,o0_4,o0_5,o1_2,o5,o6_4,o6_5,o7,o12) => { env := [(2,.ptr 0 0),(3,.ptr 1 0),(4,.int .i64 t4),(5,.bool t5),(6,.int .i64 t6),(7,.int .i64 t7),(8,.str t8),(9,.int .i64 t9)],stk := [[]],H := [.cells [.own 2,.own 3,.own 4,.own 5,.int .i64 o0_4,.int .i64 o0_5],.cells [.ifc 27 (.ptr 6 0),.ifc 27 (.ptr 0 0),.int .i64 o1_2,.own 7,.own 8],.arr (.int .i64) ([]),.arr (.int .i64) ([]),.arr (.st (.pair (.int .i64) (.int .i64))) ([]),.arr (.st (.pair (.int .i64) .str)) o5,.cells [.own 9,.own 10,.own 11,.own 12,.int .i64 o6_4,.int .i64 o6_5],.arr (.st (.pair (.int .i64) .str)) o7,.arr (.st (.pair (.int .i64) (.int .i64))) ([]),.arr (.int .i64) ([]),.arr (.int .i64) ([0,1]),.arr (.st (.pair (.int .i64) (.int .i64))) ([]),.arr (.st (.pair (.int .i64) .str)) o12],blk := 24576 }
def decPq30_n0 (s : St) : Option {x : Iq30_n0 // s = Sq30_n0 x} := match s with
  | { env := [(2,.ptr 0 0),(3,.ptr 1 0),(4,.int .i64 t4),(5,.bool t5),(6,.int .i64 t6),(7,.int .i64 t7),(8,.str t8),(9,.int .i64 t9)],stk := [[]],H := [.cells [.own 2,.own 3,.own 4,.own 5,.int .i64 o0_4,.int .i64 o0_5],.cells [.ifc 27 (.ptr 6 0),.ifc 27 (.ptr 0 0),.int .i64 o1_2,.own 7,.own 8],.arr (.int .i64) r9,.arr (.int .i64) r10,.arr (.st (.pair (.int .i64) (.int .i64))) r11,.arr (.st (.pair (.int .i64) .str)) o5,.cells [.own 9,.own 10,.own 11,.own 12,.int .i64 o6_4,.int .i64 o6_5],.arr (.st (.pair (.int .i64) .str)) o7,.arr (.st (.pair (.int .i64) (.int .i64))) r16,.arr (.int .i64) r17,.arr (.int .i64) r18,.arr (.st (.pair (.int .i64) (.int .i64))) r19,.arr (.st (.pair (.int .i64) .str)) o12],blk := 24576 } => if h9 : r9 = [] then if h10 : r10 = [] then if h11 : r11 = [] then if h16 : r16 = [] then if h17 : r17 = [] then if h18 : r18 = [0,1] then if h19 : r19 = [] then some ⟨(t4,t5,t6,t7,t8,t9,o0_4,o0_5,o1_2,o5,o6_4,o6_5,o7,o12),by subst h9 h10 h11 h16 h17 h18 h19; rfl⟩ else none else none else none else none else none else none else none
  | _ => none
def decq30_n0 (s : St) : Option Iq30_n0 := pk (decPq30_n0 s)
theorem decq30_n0_ok (s : St) (x : Iq30_n0) (h : decq30_n0 s = some x) : s = Sq30_n0 x := pk_ok (o := decPq30_n0 s) h
def outq30_n0 : Iq30_n0 → (Ex → St → Ans) → Yq30_n0 → Ans := fun (t4,t5,t6,t7,t8,t9,o0_4,o0_5,o1_2,o5,o6_4,o6_5,o7,o12) K => fun t0_y => K (Ex.norm) { env := [(0,.bool t0_y)],stk := [[]],H := [],blk := 24576 }
def nodeq30_n0 {β : Type} : Iq30_n0 → (Yq30_n0 → Option β) → Option β := fun (t4,t5,t6,t7,t8,t9,o0_4,o0_5,o1_2,o5,o6_4,o6_5,o7,o12) exit => (bif t4 == (0 : Int) then (bif !t5 then (bif t6 == (0 : Int) then (bif t7 == (0 : Int) then (bif t8 == [(120 : UInt8)] then (bif t9 == (0 : Int) then (bindO (fnDq0 (o1_2,o6_4,o6_5,o0_4,o0_5,o7,[],[],[(0 : Int),(1 : Int)],[],o12,[],[],[],o5)) fun _ => (bif o1_2 == (1 : Int) then (bindO (fnDq5 (o1_2,o6_4,o6_5,o0_4,o0_5,o7,[],[],[(0 : Int),(1 : Int)],[],o12,[],[],[],o5)) fun o13 => (bif (↑(List.length o13) : Int) == (1 : Int) then (exit ((↑(List.length o5) : Int) == (1 : Int))) else (exit (false)))) else (exit (false)))) else (exit (false))) else (exit (false))) else (exit (false))) else (exit (false))) else (exit (false))) else (exit (false)))
def nodeDq30_n0 (i : Iq30_n0) : Option Yq30_n0 := nodeq30_n0 i some
theorem nodeq30_n0_nat (i : Iq30_n0) (k : Yq30_n0 → Ans) : nodeq30_n0 i k = bindO (nodeDq30_n0 i) k := by
  obtain ⟨t4,t5,t6,t7,t8,t9,o0_4,o0_5,o1_2,o5,o6_4,o6_5,o7,o12⟩ := i
  simp only [nodeDq30_n0,nodeq30_n0,bindO_cond,bindO_assoc,bindO_none,bindO_pure,bindO_elim,bindO_unP,bindO_empty]
theorem nodeq30_n0_ok (i : Iq30_n0) (K : Ex → St → Ans) : codeI Try.tab envq30 noHint (codeD Try.tab envq30 noHint 0 64) 70 75 annLq30_n0 Lq30_n0 (weakP 0 (exk [0] [0] []) K) (Sq30_n0 i) = nodeq30_n0 i (outq30_n0 i K) := by kernel_rfl
theorem GNq30_n0_ok : CSum Try.prog 75 Lq30_n0 (sumN decq30_n0 nodeDq30_n0 outq30_n0) := csum_node mixed tabOk envq30Ok 0 (exk [0] [0] []) annLq30_n0_ok decq30_n0_ok nodeq30_n0_ok nodeq30_n0_nat
noncomputable def Gq30_n0 : (Ex → St → Ans) → St → Ans := (sumN decq30_n0 nodeDq30_n0 outq30_n0)
theorem Gq30_n0_ok : CSum Try.prog 75 Lq30_n0 Gq30_n0 := GNq30_n0_ok
noncomputable def annq30 : Ann := (.seq .none (.seq .none (.seq .none (.seq .none (.seq .none (.seq .none (.seq .none (.seq (.cut 0 [2,3,4,5,6,7,8,9] Gq30_n0) .none))))))))
theorem annq30_ok : AnnOk Try.prog 75 bq30 annq30 := ⟨(annOk_none _ _ _),⟨(annOk_none _ _ _),⟨(annOk_none _ _ _),⟨(annOk_none _ _ _),⟨(annOk_none _ _ _),⟨(annOk_none _ _ _),⟨(annOk_none _ _ _),⟨Gq30_n0_ok,(annOk_none _ _ _)⟩⟩⟩⟩⟩⟩⟩⟩
abbrev Aq30 := Unit
abbrev Yq30 := (Bool)
def fnq30 {β : Type} : Aq30 → (Yq30 → Option β) → Option β := fun _ exit => (bindO (fnDq23 ((0 : Int),(0 : Int),(0 : Int),(0 : Int),[],[(0 : Int),(1 : Int)],[],[],[],[],[],[])) fun _ => (bindO (fnDq16 ((3 : Int),[(120 : UInt8)],(0 : Int),(0 : Int),(0 : Int),(0 : Int),(0 : Int),[],[],[],[(0 : Int),(1 : Int)],[],[],[],[],[],[])) (Sum.elim (unP fun r => unP fun o1_4 => unP fun o1_5 => unP fun o2_4 => unP fun o2_5 o3 => (bindO (fnDq2 ((0 : Int),o1_4,o1_5,o2_4,o2_5,o3,[],[],[(0 : Int),(1 : Int)],[],[],[],[],[],[])) (Sum.elim (unP fun r_1 => unP fun o1_4_2 => unP fun o1_5_2 => unP fun o2_4_2 => unP fun o2_5_2 o4 => (bindO (fnDq8 ((0 : Int),o1_4_2,o1_5_2,o2_4_2,o2_5_2,o3,o4,[],[(0 : Int),(1 : Int)],[],[],[],[],[],[])) (unP fun r_2 => unP fun o0_2 => unP fun o1_4_3 => unP fun o1_5_3 => unP fun o2_4_3 => unP fun o2_5_3 => unP fun o18 o22 => (bindO (fnDq13 ((3 : Int),o0_2,o1_4_3,o1_5_3,o2_4_3,o2_5_3,o3,[],[],[(0 : Int),(1 : Int)],[],o18,[],[],[],o22)) (unP fun r_0 r_1_2 => (bindO (nodeDq30_n0 (r,false,r_1,r_2,r_0,r_1_2,o2_4_3,o2_5_3,o0_2,o22,o1_4_3,o1_5_3,o3,o18)) fun t0 => (exit (t0)))))))) (unP fun o1_4_2 => unP fun o1_5_2 => unP fun o2_4_2 => unP fun o2_5_2 => unP fun o4 o13 => (bindO (fnDq8 ((0 : Int),o1_4_2,o1_5_2,o2_4_2,o2_5_2,o13,[],[],[(0 : Int),(1 : Int)],[],[],[],[],[],[])) (unP fun r_2 => unP fun o0_2 => unP fun o1_4_3 => unP fun o1_5_3 => unP fun o2_4_3 => unP fun o2_5_3 => unP fun o18 o22 => (bindO (fnDq13 ((3 : Int),o0_2,o1_4_3,o1_5_3,o2_4_3,o2_5_3,o13,[],[],[(0 : Int),(1 : Int)],[],o18,[],[],[],o22)) (unP fun r_0 r_1 => (bindO (nodeDq30_n0 (r,true,(0 : Int),r_2,r_0,r_1,o2_4_3,o2_5_3,o0_2,o22,o1_4_3,o1_5_3,o13,o18)) fun t0 => (exit (t0))))))))))) ((Sum.elim (unP fun r => unP fun o1_4 => unP fun o1_5 => unP fun o3 o13 => (bindO (fnDq2 ((0 : Int),o1_4,o1_5,(0 : Int),(0 : Int),o3,[],[],[(0 : Int),(1 : Int)],[],o13,[],[],[],[])) (Sum.elim (unP fun r_1 => unP fun o1_4_2 => unP fun o1_5_2 => unP fun o2_4 => unP fun o2_5 o4 => (bindO (fnDq8 ((0 : Int),o1_4_2,o1_5_2,o2_4,o2_5,o3,o4,[],[(0 : Int),(1 : Int)],[],o13,[],[],[],[])) (unP fun r_2 => unP fun o0_2 => unP fun o1_4_3 => unP fun o1_5_3 => unP fun o2_4_2 => unP fun o2_5_2 => unP fun o18 o22 => (bindO (fnDq13 ((3 : Int),o0_2,o1_4_3,o1_5_3,o2_4_2,o2_5_2,o3,[],[],[(0 : Int),(1 : Int)],[],o18,[],[],[],o22)) (unP fun r_0 r_1_2 => (bindO (nodeDq30_n0 (r,false,r_1,r_2,r_0,r_1_2,o2_4_2,o2_5_2,o0_2,o22,o1_4_3,o1_5_3,o3,o18)) fun t0 => (exit (t0)))))))) (unP fun o1_4_2 => unP fun o1_5_2 => unP fun o2_4 => unP fun o2_5 => unP fun o4 o13_2 => (bindO (fnDq8 ((0 : Int),o1_4_2,o1_5_2,o2_4,o2_5,o13_2,[],[],[(0 : Int),(1 : Int)],[],o13,[],[],[],[])) (unP fun r_2 => unP fun o0_2 => unP fun o1_4_3 => unP fun o1_5_3 => unP fun o2_4_2 => unP fun o2_5_2 => unP fun o18 o22 => (bindO (fnDq13 ((3 : Int),o0_2,o1_4_3,o1_5_3,o2_4_2,o2_5_2,o13_2,[],[],[(0 : Int),(1 : Int)],[],o18,[],[],[],o22)) (unP fun r_0 r_1 => (bindO (nodeDq30_n0 (r,true,(0 : Int),r_2,r_0,r_1,o2_4_2,o2_5_2,o0_2,o22,o1_4_3,o1_5_3,o13_2,o18)) fun t0 => (exit (t0))))))))))) (unP fun r => unP fun o2_4 => unP fun o2_5 => unP fun o3 o13 => (bindO (fnDq2 ((0 : Int),(0 : Int),(0 : Int),o2_4,o2_5,o3,[],[],[(0 : Int),(1 : Int)],[],[],[],[],[],o13)) (Sum.elim (unP fun r_1 => unP fun o1_4 => unP fun o1_5 => unP fun o2_4_2 => unP fun o2_5_2 o4 => (bindO (fnDq8 ((0 : Int),o1_4,o1_5,o2_4_2,o2_5_2,o3,o4,[],[(0 : Int),(1 : Int)],[],[],[],[],[],o13)) (unP fun r_2 => unP fun o0_2 => unP fun o1_4_2 => unP fun o1_5_2 => unP fun o2_4_3 => unP fun o2_5_3 => unP fun o18 o22 => (bindO (fnDq13 ((3 : Int),o0_2,o1_4_2,o1_5_2,o2_4_3,o2_5_3,o3,[],[],[(0 : Int),(1 : Int)],[],o18,[],[],[],o22)) (unP fun r_0 r_1_2 => (bindO (nodeDq30_n0 (r,false,r_1,r_2,r_0,r_1_2,o2_4_3,o2_5_3,o0_2,o22,o1_4_2,o1_5_2,o3,o18)) fun t0 => (exit (t0)))))))) (unP fun o1_4 => unP fun o1_5 => unP fun o2_4_2 => unP fun o2_5_2 => unP fun o4 o13_2 => (bindO (fnDq8 ((0 : Int),o1_4,o1_5,o2_4_2,o2_5_2,o13_2,[],[],[(0 : Int),(1 : Int)],[],[],[],[],[],o13)) (unP fun r_2 => unP fun o0_2 => unP fun o1_4_2 => unP fun o1_5_2 => unP fun o2_4_3 => unP fun o2_5_3 => unP fun o18 o22 => (bindO (fnDq13 ((3 : Int),o0_2,o1_4_2,o1_5_2,o2_4_3,o2_5_3,o13_2,[],[],[(0 : Int),(1 : Int)],[],o18,[],[],[],o22)) (unP fun r_0 r_1 => (bindO (nodeDq30_n0 (r,true,(0 : Int),r_2,r_0,r_1,o2_4_3,o2_5_3,o0_2,o22,o1_4_2,o1_5_2,o13_2,o18)) fun t0 => (exit (t0))))))))))))))))
def fnDq30 (a : Aq30) : Option Yq30 := fnq30 a some
theorem fnq30_nat (a : Aq30) (k : Yq30 → Ans) : fnq30 a k = bindO (fnDq30 a) k := by
  obtain z := a
  simp only [fnDq30,fnq30,bindO_cond,bindO_assoc,bindO_none,bindO_pure,bindO_elim,bindO_unP,bindO_empty]
def argsq30 : Aq30 → List AV := fun _ => []
def decPAq30 (l : List AV) : Option {a : Aq30 // l = argsq30 a} := match l with
  | [] => some ⟨(),rfl⟩
  | _ => none
def decAq30 (l : List AV) : Option Aq30 := pk (decPAq30 l)
theorem decAq30_ok (l : List AV) (a : Aq30) (h : decAq30 l = some a) : l = argsq30 a := pk_ok (o := decPAq30 l) h
def rendq30 : Aq30 → Yq30 → AV := fun _ => fun r_y => .bool r_y
theorem rendq30_ok : ∀ (a : Aq30) (y : Yq30),(rendq30 a y).closed1 = true := by
  rintro z y <;> first | rfl | exact Empty.elim y
theorem fnq30_ok (a : Aq30) : fnE Try.tab envq30 noHint 0 70 6 Try.f6.ntmps Try.f6.results.toList annq30 bq30 (argsq30 a) [] (fun v _ => some (v,[])) = fnq30 a (fun y => some (rendq30 a y,[])) := by kernel_rfl
def vFq30 (a : Aq30) (K : AV → Ans) : Ans := bindO (fnDq30 a) fun y => K (rendq30 a y)
def Fq30 : List AV → (AV → Ans) → Ans := fun l K => bindO (decAq30 l) fun a => vFq30 a K
theorem Fq30_ok : PureOk Try.prog 6 Fq30 := pure_mkD (hint := noHint) (d := 0) (n := 70) mixed tabOk envq30Ok Try.func6 (bodySome (by kernel_rfl)) (by decide +kernel) annq30_ok decAq30_ok fnq30_ok fnq30_nat rendq30_ok
--@ client_New_2
noncomputable def envq24 : Env := []
theorem envq24Ok : EnvOk Try.prog envq24 := EnvOk.nil
noncomputable def bq24 : Code := Try.f8.body.getD .skip
noncomputable def annq24 : Ann := .none
theorem annq24_ok : AnnOk Try.prog 10 bq24 annq24 := (annOk_none _ _ _)
abbrev Aq24 := Unit
abbrev Yq24 := Unit
def fnq24 {β : Type} : Aq24 → (Yq24 → Option β) → Option β := fun _ exit => (exit ())
def fnDq24 (a : Aq24) : Option Yq24 := fnq24 a some
theorem fnq24_nat (a : Aq24) (k : Yq24 → Ans) : fnq24 a k = bindO (fnDq24 a) k := by
  obtain z := a
  simp only [fnDq24,fnq24,bindO_cond,bindO_assoc,bindO_none,bindO_pure,bindO_elim,bindO_unP,bindO_empty]
def argsq24 : Aq24 → List AV × List AE.Obj := fun _ => ([.nili,.nili],[])
def decPAq24 (l : List AV) (H : List AE.Obj) : Option {a : Aq24 // (l,H) = argsq24 a} := match l,H with
  | [.nili,.nili],[] => some ⟨(),rfl⟩
  | _,_ => none
def decAq24 (l : List AV) (H : List AE.Obj) : Option Aq24 := pk (decPAq24 l H)
theorem decAq24_ok (l : List AV) (H : List AE.Obj) (a : Aq24) (h : decAq24 l H = some a) : (l,H) = argsq24 a := pk_ok (o := decPAq24 l H) h
def outq24 : Aq24 → (AV → List AE.Obj → Ans) → Yq24 → Ans := fun _ K => fun _ => K (.ptr 0 0) [.cells [.nili,.nili,.int .i64 (0),.own 1,.own 2],.arr (.st (.pair (.int .i64) .str)) ([]),.arr (.st (.pair (.int .i64) (.int .i64))) ([])]
theorem fnq24_ok (a : Aq24) (K : AV → List AE.Obj → Ans) : fnE Try.tab envq24 noHint 0 70 8 Try.f8.ntmps Try.f8.results.toList annq24 bq24 (argsq24 a).1 (argsq24 a).2 K = fnq24 a (outq24 a K) := by kernel_rfl
def vFq24 (a : Aq24) (K : AV → List AE.Obj → Ans) : Ans := bindO (fnDq24 a) fun y => outq24 a K y
def Fq24 : List AV → List AE.Obj → (AV → List AE.Obj → Ans) → Ans := fun l H K => bindO (decAq24 l H) fun a => vFq24 a K
theorem Fq24_ok : FuncOk Try.prog 8 Fq24 := func_mkD (hint := noHint) (d := 0) (n := 70) mixed tabOk envq24Ok Try.func8 (bodySome (by kernel_rfl)) (by decide +kernel) annq24_ok decAq24_ok fnq24_ok fnq24_nat
end Go.Proofs.R8
namespace Go.Proofs.R8
open Go Go.AE
set_option maxRecDepth 100000
--@ client_Client_server_2
noncomputable def envq21 : Env := []
theorem envq21Ok : EnvOk Try.prog envq21 := EnvOk.nil
noncomputable def bq21 : Code := Try.f21.body.getD .skip
noncomputable def annq21 : Ann := .none
theorem annq21_ok : AnnOk Try.prog 14 bq21 annq21 := (annOk_none _ _ _)
abbrev Aq21 := Unit
abbrev Yq21 := Unit
def fnq21 {β : Type} : Aq21 → (Yq21 → Option β) → Option β := fun _ exit => (exit ())
def fnDq21 (a : Aq21) : Option Yq21 := fnq21 a some
theorem fnq21_nat (a : Aq21) (k : Yq21 → Ans) : fnq21 a k = bindO (fnDq21 a) k := by
  obtain z := a
  simp only [fnDq21,fnq21,bindO_cond,bindO_assoc,bindO_none,bindO_pure,bindO_elim,bindO_unP,bindO_empty]
def argsq21 : Aq21 → List AV × List AE.Obj := fun _ => ([.nilp],[])
def decPAq21 (l : List AV) (H : List AE.Obj) : Option {a : Aq21 // (l,H) = argsq21 a} := match l,H with
  | [.nilp],[] => some ⟨(),rfl⟩
  | _,_ => none
def decAq21 (l : List AV) (H : List AE.Obj) : Option Aq21 := pk (decPAq21 l H)
theorem decAq21_ok (l : List AV) (H : List AE.Obj) (a : Aq21) (h : decAq21 l H = some a) : (l,H) = argsq21 a := pk_ok (o := decPAq21 l H) h
def outq21 : Aq21 → (AV → List AE.Obj → Ans) → Yq21 → Ans := fun _ K => fun _ => K (.nili) []
theorem fnq21_ok (a : Aq21) (K : AV → List AE.Obj → Ans) : fnE Try.tab envq21 noHint 0 70 21 Try.f21.ntmps Try.f21.results.toList annq21 bq21 (argsq21 a).1 (argsq21 a).2 K = fnq21 a (outq21 a K) := by kernel_rfl
def vFq21 (a : Aq21) (K : AV → List AE.Obj → Ans) : Ans := bindO (fnDq21 a) fun y => outq21 a K y
def Fq21 : List AV → List AE.Obj → (AV → List AE.Obj → Ans) → Ans := fun l H K => bindO (decAq21 l H) fun a => vFq21 a K
theorem Fq21_ok : FuncOk Try.prog 21 Fq21 := func_mkD (hint := noHint) (d := 0) (n := 70) mixed tabOk envq21Ok Try.func21 (bodySome (by kernel_rfl)) (by decide +kernel) annq21_ok decAq21_ok fnq21_ok fnq21_nat
--@ client_Client_Read_2
noncomputable def envq14 : Env := [(21,.func Fq21)]
theorem envq14Ok : EnvOk Try.prog envq14 := EnvOk.cons Fq21_ok (EnvOk.nil)
noncomputable def bq14 : Code := Try.f20.body.getD .skip
noncomputable def annq14 : Ann := .none
theorem annq14_ok : AnnOk Try.prog 16 bq14 annq14 := (annOk_none _ _ _)
abbrev Aq14 := (Int)
abbrev Yq14 := Unit
def fnq14 {β : Type} : Aq14 → (Yq14 → Option β) → Option β := fun a1 exit => (bindO (fnDq21 ()) fun _ => (exit ()))
def fnDq14 (a : Aq14) : Option Yq14 := fnq14 a some
theorem fnq14_nat (a : Aq14) (k : Yq14 → Ans) : fnq14 a k = bindO (fnDq14 a) k := by
  obtain z := a
  simp only [fnDq14,fnq14,bindO_cond,bindO_assoc,bindO_none,bindO_pure,bindO_elim,bindO_unP,bindO_empty]
def argsq14 : Aq14 → List AV × List AE.Obj := fun a1 => ([.nilp,.int .i64 a1],[])
def decPAq14 (l : List AV) (H : List AE.Obj) : Option {a : Aq14 // (l,H) = argsq14 a} := match l,H with
  | [.nilp,.int .i64 a1],[] => some ⟨(a1),rfl⟩
  | _,_ => none
def decAq14 (l : List AV) (H : List AE.Obj) : Option Aq14 := pk (decPAq14 l H)
theorem decAq14_ok (l : List AV) (H : List AE.Obj) (a : Aq14) (h : decAq14 l H = some a) : (l,H) = argsq14 a := pk_ok (o := decPAq14 l H) h
def outq14 : Aq14 → (AV → List AE.Obj → Ans) → Yq14 → Ans := fun a1 K => fun _ => K (.tup [.str ([]),.int .i64 (10)]) []
theorem fnq14_ok (a : Aq14) (K : AV → List AE.Obj → Ans) : fnE Try.tab envq14 noHint 0 70 20 Try.f20.ntmps Try.f20.results.toList annq14 bq14 (argsq14 a).1 (argsq14 a).2 K = fnq14 a (outq14 a K) := by kernel_rfl
def vFq14 (a : Aq14) (K : AV → List AE.Obj → Ans) : Ans := bindO (fnDq14 a) fun y => outq14 a K y
def Fq14 : List AV → List AE.Obj → (AV → List AE.Obj → Ans) → Ans := fun l H K => bindO (decAq14 l H) fun a => vFq14 a K
theorem Fq14_ok : FuncOk Try.prog 20 Fq14 := func_mkD (hint := noHint) (d := 0) (n := 70) mixed tabOk envq14Ok Try.func20 (bodySome (by kernel_rfl)) (by decide +kernel) annq14_ok decAq14_ok fnq14_ok fnq14_nat
--@ client_Client_server_3
noncomputable def envq22 : Env := []
theorem envq22Ok : EnvOk Try.prog envq22 := EnvOk.nil
noncomputable def bq22 : Code := Try.f21.body.getD .skip
noncomputable def annq22 : Ann := .none
theorem annq22_ok : AnnOk Try.prog 14 bq22 annq22 := (annOk_none _ _ _)
abbrev Aq22 := (Int) × (List (Int × List UInt8)) × (List (Int × Int))
abbrev Yq22 := Unit
def fnq22 {β : Type} : Aq22 → (Yq22 → Option β) → Option β := fun (o0_2,o1,o2) exit => (bif o0_2 == (0 : Int) then (exit ()) else (bif o0_2 == (1 : Int) then (exit ()) else none))
def fnDq22 (a : Aq22) : Option Yq22 := fnq22 a some
theorem fnq22_nat (a : Aq22) (k : Yq22 → Ans) : fnq22 a k = bindO (fnDq22 a) k := by
  obtain ⟨o0_2,o1,o2⟩ := a
  simp only [fnDq22,fnq22,bindO_cond,bindO_assoc,bindO_none,bindO_pure,bindO_elim,bindO_unP,bindO_empty]
def argsq22 : Aq22 → List AV × List AE.Obj := fun (o0_2,o1,o2) => ([.ptr 0 0],[.cells [.nili,.nili,.int .i64 o0_2,.own 1,.own 2],.arr (.st (.pair (.int .i64) .str)) o1,.arr (.st (.pair (.int .i64) (.int .i64))) o2])
def decPAq22 (l : List AV) (H : List AE.Obj) : Option {a : Aq22 // (l,H) = argsq22 a} := match l,H with
  | [.ptr 0 0],[.cells [.nili,.nili,.int .i64 o0_2,.own 1,.own 2],.arr (.st (.pair (.int .i64) .str)) o1,.arr (.st (.pair (.int .i64) (.int .i64))) o2] => some ⟨(o0_2,o1,o2),rfl⟩
  | _,_ => none
def decAq22 (l : List AV) (H : List AE.Obj) : Option Aq22 := pk (decPAq22 l H)
theorem decAq22_ok (l : List AV) (H : List AE.Obj) (a : Aq22) (h : decAq22 l H = some a) : (l,H) = argsq22 a := pk_ok (o := decPAq22 l H) h
def outq22 : Aq22 → (AV → List AE.Obj → Ans) → Yq22 → Ans := fun (o0_2,o1,o2) K => fun _ => K (.nili) [.cells [.nili,.nili,.int .i64 o0_2,.own 1,.own 2],.arr (.st (.pair (.int .i64) .str)) o1,.arr (.st (.pair (.int .i64) (.int .i64))) o2]
theorem fnq22_ok (a : Aq22) (K : AV → List AE.Obj → Ans) : fnE Try.tab envq22 noHint 0 70 21 Try.f21.ntmps Try.f21.results.toList annq22 bq22 (argsq22 a).1 (argsq22 a).2 K = fnq22 a (outq22 a K) := by kernel_rfl
def vFq22 (a : Aq22) (K : AV → List AE.Obj → Ans) : Ans := bindO (fnDq22 a) fun y => outq22 a K y
def Fq22 : List AV → List AE.Obj → (AV → List AE.Obj → Ans) → Ans := fun l H K => bindO (decAq22 l H) fun a => vFq22 a K
theorem Fq22_ok : FuncOk Try.prog 21 Fq22 := func_mkD (hint := noHint) (d := 0) (n := 70) mixed tabOk envq22Ok Try.func21 (bodySome (by kernel_rfl)) (by decide +kernel) annq22_ok decAq22_ok fnq22_ok fnq22_nat
--@ client_Client_Read_3
noncomputable def envq15 : Env := [(21,.func Fq22)]
theorem envq15Ok : EnvOk Try.prog envq15 := EnvOk.cons Fq22_ok (EnvOk.nil)
noncomputable def bq15 : Code := Try.f20.body.getD .skip
noncomputable def annq15 : Ann := .none
theorem annq15_ok : AnnOk Try.prog 16 bq15 annq15 := (annOk_none _ _ _)
abbrev Aq15 := (Int) × (Int) × (List (Int × List UInt8)) × (List (Int × Int))
abbrev Yq15 := Unit
def fnq15 {β : Type} : Aq15 → (Yq15 → Option β) → Option β := fun (a1,o0_2,o1,o2) exit => (bindO (fnDq22 (o0_2,o1,o2)) fun _ => (exit ()))
def fnDq15 (a : Aq15) : Option Yq15 := fnq15 a some
theorem fnq15_nat (a : Aq15) (k : Yq15 → Ans) : fnq15 a k = bindO (fnDq15 a) k := by
  obtain ⟨a1,o0_2,o1,o2⟩ := a
  simp only [fnDq15,fnq15,bindO_cond,bindO_assoc,bindO_none,bindO_pure,bindO_elim,bindO_unP,bindO_empty]
def argsq15 : Aq15 → List AV × List AE.Obj := fun (a1,o0_2,o1,o2) => ([.ptr 0 0,.int .i64 a1],[.cells [.nili,.nili,.int .i64 o0_2,.own 1,.own 2],.arr (.st (.pair (.int .i64) .str)) o1,.arr (.st (.pair (.int .i64) (.int .i64))) o2])
def decPAq15 (l : List AV) (H : List AE.Obj) : Option {a : Aq15 // (l,H) = argsq15 a} := match l,H with
  | [.ptr 0 0,.int .i64 a1],[.cells [.nili,.nili,.int .i64 o0_2,.own 1,.own 2],.arr (.st (.pair (.int .i64) .str)) o1,.arr (.st (.pair (.int .i64) (.int .i64))) o2] => some ⟨(a1,o0_2,o1,o2),rfl⟩
  | _,_ => none
def decAq15 (l : List AV) (H : List AE.Obj) : Option Aq15 := pk (decPAq15 l H)
theorem decAq15_ok (l : List AV) (H : List AE.Obj) (a : Aq15) (h : decAq15 l H = some a) : (l,H) = argsq15 a := pk_ok (o := decPAq15 l H) h
def outq15 : Aq15 → (AV → List AE.Obj → Ans) → Yq15 → Ans := fun (a1,o0_2,o1,o2) K => fun _ => K (.tup [.str ([]),.int .i64 (10)]) [.cells [.nili,.nili,.int .i64 o0_2,.own 1,.own 2],.arr (.st (.pair (.int .i64) .str)) o1,.arr (.st (.pair (.int .i64) (.int .i64))) o2]
theorem fnq15_ok (a : Aq15) (K : AV → List AE.Obj → Ans) : fnE Try.tab envq15 noHint 0 70 20 Try.f20.ntmps Try.f20.results.toList annq15 bq15 (argsq15 a).1 (argsq15 a).2 K = fnq15 a (outq15 a K) := by kernel_rfl
def vFq15 (a : Aq15) (K : AV → List AE.Obj → Ans) : Ans := bindO (fnDq15 a) fun y => outq15 a K y
def Fq15 : List AV → List AE.Obj → (AV → List AE.Obj → Ans) → Ans := fun l H K => bindO (decAq15 l H) fun a => vFq15 a K
theorem Fq15_ok : FuncOk Try.prog 20 Fq15 := func_mkD (hint := noHint) (d := 0) (n := 70) mixed tabOk envq15Ok Try.func20 (bodySome (by kernel_rfl)) (by decide +kernel) annq15_ok decAq15_ok fnq15_ok fnq15_nat
--@ client_Client_Flush_2
noncomputable def envq3 : Env := [(21,.func Fq21)]
theorem envq3Ok : EnvOk Try.prog envq3 := EnvOk.cons Fq21_ok (EnvOk.nil)
noncomputable def bq3 : Code := Try.f10.body.getD .skip
noncomputable def annq3 : Ann := .none
theorem annq3_ok : AnnOk Try.prog 52 bq3 annq3 := (annOk_none _ _ _)
abbrev Aq3 := Unit
abbrev Yq3 := Unit
def fnq3 {β : Type} : Aq3 → (Yq3 → Option β) → Option β := fun _ exit => (bindO (fnDq21 ()) fun _ => (exit ()))
def fnDq3 (a : Aq3) : Option Yq3 := fnq3 a some
theorem fnq3_nat (a : Aq3) (k : Yq3 → Ans) : fnq3 a k = bindO (fnDq3 a) k := by
  obtain z := a
  simp only [fnDq3,fnq3,bindO_cond,bindO_assoc,bindO_none,bindO_pure,bindO_elim,bindO_unP,bindO_empty]
def argsq3 : Aq3 → List AV × List AE.Obj := fun _ => ([.nilp],[])
def decPAq3 (l : List AV) (H : List AE.Obj) : Option {a : Aq3 // (l,H) = argsq3 a} := match l,H with
  | [.nilp],[] => some ⟨(),rfl⟩
  | _,_ => none
def decAq3 (l : List AV) (H : List AE.Obj) : Option Aq3 := pk (decPAq3 l H)
theorem decAq3_ok (l : List AV) (H : List AE.Obj) (a : Aq3) (h : decAq3 l H = some a) : (l,H) = argsq3 a := pk_ok (o := decPAq3 l H) h
def outq3 : Aq3 → (AV → List AE.Obj → Ans) → Yq3 → Ans := fun _ K => fun _ => K (.tup [.bool (false),.int .i64 (10)]) []
theorem fnq3_ok (a : Aq3) (K : AV → List AE.Obj → Ans) : fnE Try.tab envq3 noHint 0 70 10 Try.f10.ntmps Try.f10.results.toList annq3 bq3 (argsq3 a).1 (argsq3 a).2 K = fnq3 a (outq3 a K) := by kernel_rfl
def vFq3 (a : Aq3) (K : AV → List AE.Obj → Ans) : Ans := bindO (fnDq3 a) fun y => outq3 a K y
def Fq3 : List AV → List AE.Obj → (AV → List AE.Obj → Ans) → Ans := fun l H K => bindO (decAq3 l H) fun a => vFq3 a K
theorem Fq3_ok : FuncOk Try.prog 10 Fq3 := func_mkD (hint := noHint) (d := 0) (n := 70) mixed tabOk envq3Ok Try.func10 (bodySome (by kernel_rfl)) (by decide +kernel) annq3_ok decAq3_ok fnq3_ok fnq3_nat
--@ client_Client_Flush_3
noncomputable def envq4 : Env := [(21,.func Fq22)]
theorem envq4Ok : EnvOk Try.prog envq4 := EnvOk.cons Fq22_ok (EnvOk.nil)
noncomputable def bq4 : Code := Try.f10.body.getD .skip
noncomputable def annq4 : Ann := .none
theorem annq4_ok : AnnOk Try.prog 52 bq4 annq4 := (annOk_none _ _ _)
abbrev Aq4 := (Int) × (List (Int × List UInt8)) × (List (Int × Int))
abbrev Yq4 := Unit
def fnq4 {β : Type} : Aq4 → (Yq4 → Option β) → Option β := fun (o0_2,o1,o2) exit => (bindO (fnDq22 (o0_2,o1,o2)) fun _ => (exit ()))
def fnDq4 (a : Aq4) : Option Yq4 := fnq4 a some
theorem fnq4_nat (a : Aq4) (k : Yq4 → Ans) : fnq4 a k = bindO (fnDq4 a) k := by
  obtain ⟨o0_2,o1,o2⟩ := a
  simp only [fnDq4,fnq4,bindO_cond,bindO_assoc,bindO_none,bindO_pure,bindO_elim,bindO_unP,bindO_empty]
def argsq4 : Aq4 → List AV × List AE.Obj := fun (o0_2,o1,o2) => ([.ptr 0 0],[.cells [.nili,.nili,.int .i64 o0_2,.own 1,.own 2],.arr (.st (.pair (.int .i64) .str)) o1,.arr (.st (.pair (.int .i64) (.int .i64))) o2])
def decPAq4 (l : List AV) (H : List AE.Obj) : Option {a : Aq4 // (l,H) = argsq4 a} := match l,H with
  | [.ptr 0 0],[.cells [.nili,.nili,.int .i64 o0_2,.own 1,.own 2],.arr (.st (.pair (.int .i64) .str)) o1,.arr (.st (.pair (.int .i64) (.int .i64))) o2] => some ⟨(o0_2,o1,o2),rfl⟩
  | _,_ => none
def decAq4 (l : List AV) (H : List AE.Obj) : Option Aq4 := pk (decPAq4 l H)
theorem decAq4_ok (l : List AV) (H : List AE.Obj) (a : Aq4) (h : decAq4 l H = some a) : (l,H) = argsq4 a := pk_ok (o := decPAq4 l H) h
def outq4 : Aq4 → (AV → List AE.Obj → Ans) → Yq4 → Ans := fun (o0_2,o1,o2) K => fun _ => K (.tup [.bool (false),.int .i64 (10)]) [.cells [.nili,.nili,.int .i64 o0_2,.own 1,.own 2],.arr (.st (.pair (.int .i64) .str)) o1,.arr (.st (.pair (.int .i64) (.int .i64))) o2]
theorem fnq4_ok (a : Aq4) (K : AV → List AE.Obj → Ans) : fnE Try.tab envq4 noHint 0 70 10 Try.f10.ntmps Try.f10.results.toList annq4 bq4 (argsq4 a).1 (argsq4 a).2 K = fnq4 a (outq4 a K) := by kernel_rfl
def vFq4 (a : Aq4) (K : AV → List AE.Obj → Ans) : Ans := bindO (fnDq4 a) fun y => outq4 a K y
def Fq4 : List AV → List AE.Obj → (AV → List AE.Obj → Ans) → Ans := fun l H K => bindO (decAq4 l H) fun a => vFq4 a K
theorem Fq4_ok : FuncOk Try.prog 10 Fq4 := func_mkD (hint := noHint) (d := 0) (n := 70) mixed tabOk envq4Ok Try.func10 (bodySome (by kernel_rfl)) (by decide +kernel) annq4_ok decAq4_ok fnq4_ok fnq4_nat
--@ client_Client_Poll
noncomputable def envq11 : Env := [(21,.func Fq21)]
theorem envq11Ok : EnvOk Try.prog envq11 := EnvOk.cons Fq21_ok (EnvOk.nil)
noncomputable def bq11 : Code := Try.f18.body.getD .skip
noncomputable def annq11 : Ann := .none
theorem annq11_ok : AnnOk Try.prog 23 bq11 annq11 := (annOk_none _ _ _)
abbrev Aq11 := Unit
abbrev Yq11 := Unit
def fnq11 {β : Type} : Aq11 → (Yq11 → Option β) → Option β := fun _ exit => (bindO (fnDq21 ()) fun _ => (exit ()))
def fnDq11 (a : Aq11) : Option Yq11 := fnq11 a some
theorem fnq11_nat (a : Aq11) (k : Yq11 → Ans) : fnq11 a k = bindO (fnDq11 a) k := by
  obtain z := a
  simp only [fnDq11,fnq11,bindO_cond,bindO_assoc,bindO_none,bindO_pure,bindO_elim,bindO_unP,bindO_empty]
def argsq11 : Aq11 → List AV × List AE.Obj := fun _ => ([.nilp],[])
def decPAq11 (l : List AV) (H : List AE.Obj) : Option {a : Aq11 // (l,H) = argsq11 a} := match l,H with
  | [.nilp],[] => some ⟨(),rfl⟩
  | _,_ => none
def decAq11 (l : List AV) (H : List AE.Obj) : Option Aq11 := pk (decPAq11 l H)
theorem decAq11_ok (l : List AV) (H : List AE.Obj) (a : Aq11) (h : decAq11 l H = some a) : (l,H) = argsq11 a := pk_ok (o := decPAq11 l H) h
def outq11 : Aq11 → (AV → List AE.Obj → Ans) → Yq11 → Ans := fun _ K => fun _ => K (.bool (false)) []
theorem fnq11_ok (a : Aq11) (K : AV → List AE.Obj → Ans) : fnE Try.tab envq11 noHint 0 70 18 Try.f18.ntmps Try.f18.results.toList annq11 bq11 (argsq11 a).1 (argsq11 a).2 K = fnq11 a (outq11 a K) := by kernel_rfl
def vFq11 (a : Aq11) (K : AV → List AE.Obj → Ans) : Ans := bindO (fnDq11 a) fun y => outq11 a K y
def Fq11 : List AV → List AE.Obj → (AV → List AE.Obj → Ans) → Ans := fun l H K => bindO (decAq11 l H) fun a => vFq11 a K
theorem Fq11_ok : FuncOk Try.prog 18 Fq11 := func_mkD (hint := noHint) (d := 0) (n := 70) mixed tabOk envq11Ok Try.func18 (bodySome (by kernel_rfl)) (by decide +kernel) annq11_ok decAq11_ok fnq11_ok fnq11_nat
--@ client_Client_Poll_2
noncomputable def envq12 : Env := [(21,.func Fq22)]
theorem envq12Ok : EnvOk Try.prog envq12 := EnvOk.cons Fq22_ok (EnvOk.nil)
noncomputable def bq12 : Code := Try.f18.body.getD .skip
noncomputable def annq12 : Ann := .none
theorem annq12_ok : AnnOk Try.prog 23 bq12 annq12 := (annOk_none _ _ _)
abbrev Aq12 := (Int) × (List (Int × List UInt8)) × (List (Int × Int))
abbrev Yq12 := Unit
def fnq12 {β : Type} : Aq12 → (Yq12 → Option β) → Option β := fun (o0_2,o1,o2) exit => (bindO (fnDq22 (o0_2,o1,o2)) fun _ => (exit ()))
def fnDq12 (a : Aq12) : Option Yq12 := fnq12 a some
theorem fnq12_nat (a : Aq12) (k : Yq12 → Ans) : fnq12 a k = bindO (fnDq12 a) k := by
  obtain ⟨o0_2,o1,o2⟩ := a
  simp only [fnDq12,fnq12,bindO_cond,bindO_assoc,bindO_none,bindO_pure,bindO_elim,bindO_unP,bindO_empty]
def argsq12 : Aq12 → List AV × List AE.Obj := fun (o0_2,o1,o2) => ([.ptr 0 0],[.cells [.nili,.nili,.int .i64 o0_2,.own 1,.own 2],.arr (.st (.pair (.int .i64) .str)) o1,.arr (.st (.pair (.int .i64) (.int .i64))) o2])
def decPAq12 (l : List AV) (H : List AE.Obj) : Option {a : Aq12 // (l,H) = argsq12 a} := match l,H with
  | [.ptr 0 0],[.cells [.nili,.nili,.int .i64 o0_2,.own 1,.own 2],.arr (.st (.pair (.int .i64) .str)) o1,.arr (.st (.pair (.int .i64) (.int .i64))) o2] => some ⟨(o0_2,o1,o2),rfl⟩
  | _,_ => none
def decAq12 (l : List AV) (H : List AE.Obj) : Option Aq12 := pk (decPAq12 l H)
theorem decAq12_ok (l : List AV) (H : List AE.Obj) (a : Aq12) (h : decAq12 l H = some a) : (l,H) = argsq12 a := pk_ok (o := decPAq12 l H) h
def outq12 : Aq12 → (AV → List AE.Obj → Ans) → Yq12 → Ans := fun (o0_2,o1,o2) K => fun _ => K (.bool (false)) [.cells [.nili,.nili,.int .i64 o0_2,.own 1,.own 2],.arr (.st (.pair (.int .i64) .str)) o1,.arr (.st (.pair (.int .i64) (.int .i64))) o2]
theorem fnq12_ok (a : Aq12) (K : AV → List AE.Obj → Ans) : fnE Try.tab envq12 noHint 0 70 18 Try.f18.ntmps Try.f18.results.toList annq12 bq12 (argsq12 a).1 (argsq12 a).2 K = fnq12 a (outq12 a K) := by kernel_rfl
def vFq12 (a : Aq12) (K : AV → List AE.Obj → Ans) : Ans := bindO (fnDq12 a) fun y => outq12 a K y
def Fq12 : List AV → List AE.Obj → (AV → List AE.Obj → Ans) → Ans := fun l H K => bindO (decAq12 l H) fun a => vFq12 a K
theorem Fq12_ok : FuncOk Try.prog 18 Fq12 := func_mkD (hint := noHint) (d := 0) (n := 70) mixed tabOk envq12Ok Try.func18 (bodySome (by kernel_rfl)) (by decide +kernel) annq12_ok decAq12_ok fnq12_ok fnq12_nat
--@ client_Client_At_2
noncomputable def envq1 : Env := []
theorem envq1Ok : EnvOk Try.prog envq1 := EnvOk.nil
noncomputable def bq1 : Code := Try.f13.body.getD .skip
noncomputable def annq1 : Ann := .none
theorem annq1_ok : AnnOk Try.prog 9 bq1 annq1 := (annOk_none _ _ _)
abbrev Aq1 := Unit
abbrev Yq1 := Unit
def fnq1 {β : Type} : Aq1 → (Yq1 → Option β) → Option β := fun _ exit => (exit ())
def fnDq1 (a : Aq1) : Option Yq1 := fnq1 a some
theorem fnq1_nat (a : Aq1) (k : Yq1 → Ans) : fnq1 a k = bindO (fnDq1 a) k := by
  obtain z := a
  simp only [fnDq1,fnq1,bindO_cond,bindO_assoc,bindO_none,bindO_pure,bindO_elim,bindO_unP,bindO_empty]
def argsq1 : Aq1 → List AV × List AE.Obj := fun _ => ([.nilp],[])
def decPAq1 (l : List AV) (H : List AE.Obj) : Option {a : Aq1 // (l,H) = argsq1 a} := match l,H with
  | [.nilp],[] => some ⟨(),rfl⟩
  | _,_ => none
def decAq1 (l : List AV) (H : List AE.Obj) : Option Aq1 := pk (decPAq1 l H)
theorem decAq1_ok (l : List AV) (H : List AE.Obj) (a : Aq1) (h : decAq1 l H = some a) : (l,H) = argsq1 a := pk_ok (o := decPAq1 l H) h
def outq1 : Aq1 → (AV → List AE.Obj → Ans) → Yq1 → Ans := fun _ K => fun _ => K (.int .i64 (0)) []
theorem fnq1_ok (a : Aq1) (K : AV → List AE.Obj → Ans) : fnE Try.tab envq1 noHint 0 70 13 Try.f13.ntmps Try.f13.results.toList annq1 bq1 (argsq1 a).1 (argsq1 a).2 K = fnq1 a (outq1 a K) := by kernel_rfl
def vFq1 (a : Aq1) (K : AV → List AE.Obj → Ans) : Ans := bindO (fnDq1 a) fun y => outq1 a K y
def Fq1 : List AV → List AE.Obj → (AV → List AE.Obj → Ans) → Ans := fun l H K => bindO (decAq1 l H) fun a => vFq1 a K
theorem Fq1_ok : FuncOk Try.prog 13 Fq1 := func_mkD (hint := noHint) (d := 0) (n := 70) mixed tabOk envq1Ok Try.func13 (bodySome (by kernel_rfl)) (by decide +kernel) annq1_ok decAq1_ok fnq1_ok fnq1_nat
--@ client_Client_Write_2
noncomputable def envq17 : Env := [(21,.func Fq21)]
theorem envq17Ok : EnvOk Try.prog envq17 := EnvOk.cons Fq21_ok (EnvOk.nil)
noncomputable def bq17 : Code := Try.f9.body.getD .skip
noncomputable def annq17 : Ann := .none
theorem annq17_ok : AnnOk Try.prog 44 bq17 annq17 := (annOk_none _ _ _)
abbrev Aq17 := (Int) × (List UInt8)
abbrev Yq17 := Unit
def fnq17 {β : Type} : Aq17 → (Yq17 → Option β) → Option β := fun (a1,a2) exit => (bindO (fnDq21 ()) fun _ => (exit ()))
def fnDq17 (a : Aq17) : Option Yq17 := fnq17 a some
theorem fnq17_nat (a : Aq17) (k : Yq17 → Ans) : fnq17 a k = bindO (fnDq17 a) k := by
  obtain ⟨a1,a2⟩ := a
  simp only [fnDq17,fnq17,bindO_cond,bindO_assoc,bindO_none,bindO_pure,bindO_elim,bindO_unP,bindO_empty]
def argsq17 : Aq17 → List AV × List AE.Obj := fun (a1,a2) => ([.nilp,.int .i64 a1,.str a2],[])
def decPAq17 (l : List AV) (H : List AE.Obj) : Option {a : Aq17 // (l,H) = argsq17 a} := match l,H with
  | [.nilp,.int .i64 a1,.str a2],[] => some ⟨(a1,a2),rfl⟩
  | _,_ => none
def decAq17 (l : List AV) (H : List AE.Obj) : Option Aq17 := pk (decPAq17 l H)
theorem decAq17_ok (l : List AV) (H : List AE.Obj) (a : Aq17) (h : decAq17 l H = some a) : (l,H) = argsq17 a := pk_ok (o := decPAq17 l H) h
def outq17 : Aq17 → (AV → List AE.Obj → Ans) → Yq17 → Ans := fun (a1,a2) K => fun _ => K (.int .i64 (10)) []
theorem fnq17_ok (a : Aq17) (K : AV → List AE.Obj → Ans) : fnE Try.tab envq17 noHint 0 70 9 Try.f9.ntmps Try.f9.results.toList annq17 bq17 (argsq17 a).1 (argsq17 a).2 K = fnq17 a (outq17 a K) := by kernel_rfl
def vFq17 (a : Aq17) (K : AV → List AE.Obj → Ans) : Ans := bindO (fnDq17 a) fun y => outq17 a K y
def Fq17 : List AV → List AE.Obj → (AV → List AE.Obj → Ans) → Ans := fun l H K => bindO (decAq17 l H) fun a => vFq17 a K
theorem Fq17_ok : FuncOk Try.prog 9 Fq17 := func_mkD (hint := noHint) (d := 0) (n := 70) mixed tabOk envq17Ok Try.func9 (bodySome (by kernel_rfl)) (by decide +kernel) annq17_ok decAq17_ok fnq17_ok fnq17_nat
--@ client_Client_Write_3
noncomputable def envq18 : Env := [(21,.func Fq22)]
theorem envq18Ok : EnvOk Try.prog envq18 := EnvOk.cons Fq22_ok (EnvOk.nil)
noncomputable def bq18 : Code := Try.f9.body.getD .skip
noncomputable def annq18 : Ann := .none
theorem annq18_ok : AnnOk Try.prog 44 bq18 annq18 := (annOk_none _ _ _)
abbrev Aq18 := (Int) × (List UInt8) × (Int) × (List (Int × List UInt8)) × (List (Int × Int))
abbrev Yq18 := Unit
def fnq18 {β : Type} : Aq18 → (Yq18 → Option β) → Option β := fun (a1,a2,o0_2,o1,o2) exit => (bindO (fnDq22 (o0_2,o1,o2)) fun _ => (exit ()))
def fnDq18 (a : Aq18) : Option Yq18 := fnq18 a some
theorem fnq18_nat (a : Aq18) (k : Yq18 → Ans) : fnq18 a k = bindO (fnDq18 a) k := by
  obtain ⟨a1,a2,o0_2,o1,o2⟩ := a
  simp only [fnDq18,fnq18,bindO_cond,bindO_assoc,bindO_none,bindO_pure,bindO_elim,bindO_unP,bindO_empty]
def argsq18 : Aq18 → List AV × List AE.Obj := fun (a1,a2,o0_2,o1,o2) => ([.ptr 0 0,.int .i64 a1,.str a2],[.cells [.nili,.nili,.int .i64 o0_2,.own 1,.own 2],.arr (.st (.pair (.int .i64) .str)) o1,.arr (.st (.pair (.int .i64) (.int .i64))) o2])
def decPAq18 (l : List AV) (H : List AE.Obj) : Option {a : Aq18 // (l,H) = argsq18 a} := match l,H with
  | [.ptr 0 0,.int .i64 a1,.str a2],[.cells [.nili,.nili,.int .i64 o0_2,.own 1,.own 2],.arr (.st (.pair (.int .i64) .str)) o1,.arr (.st (.pair (.int .i64) (.int .i64))) o2] => some ⟨(a1,a2,o0_2,o1,o2),rfl⟩
  | _,_ => none
def decAq18 (l : List AV) (H : List AE.Obj) : Option Aq18 := pk (decPAq18 l H)
theorem decAq18_ok (l : List AV) (H : List AE.Obj) (a : Aq18) (h : decAq18 l H = some a) : (l,H) = argsq18 a := pk_ok (o := decPAq18 l H) h
def outq18 : Aq18 → (AV → List AE.Obj → Ans) → Yq18 → Ans := fun (a1,a2,o0_2,o1,o2) K => fun _ => K (.int .i64 (10)) [.cells [.nili,.nili,.int .i64 o0_2,.own 1,.own 2],.arr (.st (.pair (.int .i64) .str)) o1,.arr (.st (.pair (.int .i64) (.int .i64))) o2]
theorem fnq18_ok (a : Aq18) (K : AV → List AE.Obj → Ans) : fnE Try.tab envq18 noHint 0 70 9 Try.f9.ntmps Try.f9.results.toList annq18 bq18 (argsq18 a).1 (argsq18 a).2 K = fnq18 a (outq18 a K) := by kernel_rfl
def vFq18 (a : Aq18) (K : AV → List AE.Obj → Ans) : Ans := bindO (fnDq18 a) fun y => outq18 a K y
def Fq18 : List AV → List AE.Obj → (AV → List AE.Obj → Ans) → Ans := fun l H K => bindO (decAq18 l H) fun a => vFq18 a K
theorem Fq18_ok : FuncOk Try.prog 9 Fq18 := func_mkD (hint := noHint) (d := 0) (n := 70) mixed tabOk envq18Ok Try.func9 (bodySome (by kernel_rfl)) (by decide +kernel) annq18_ok decAq18_ok fnq18_ok fnq18_nat
--@ client_Client_Over_2
noncomputable def envq9 : Env := []
theorem envq9Ok : EnvOk Try.prog envq9 := EnvOk.nil
noncomputable def bq9 : Code := Try.f12.body.getD .skip
noncomputable def annq9 : Ann := .none
theorem annq9_ok : AnnOk Try.prog 47 bq9 annq9 := (annOk_none _ _ _)
abbrev Aq9 := Unit
abbrev Yq9 := Unit
def fnq9 {β : Type} : Aq9 → (Yq9 → Option β) → Option β := fun _ exit => (exit ())
def fnDq9 (a : Aq9) : Option Yq9 := fnq9 a some
theorem fnq9_nat (a : Aq9) (k : Yq9 → Ans) : fnq9 a k = bindO (fnDq9 a) k := by
  obtain z := a
  simp only [fnDq9,fnq9,bindO_cond,bindO_assoc,bindO_none,bindO_pure,bindO_elim,bindO_unP,bindO_empty]
def argsq9 : Aq9 → List AV × List AE.Obj := fun _ => ([.nilp],[])
def decPAq9 (l : List AV) (H : List AE.Obj) : Option {a : Aq9 // (l,H) = argsq9 a} := match l,H with
  | [.nilp],[] => some ⟨(),rfl⟩
  | _,_ => none
def decAq9 (l : List AV) (H : List AE.Obj) : Option Aq9 := pk (decPAq9 l H)
theorem decAq9_ok (l : List AV) (H : List AE.Obj) (a : Aq9) (h : decAq9 l H = some a) : (l,H) = argsq9 a := pk_ok (o := decPAq9 l H) h
def outq9 : Aq9 → (AV → List AE.Obj → Ans) → Yq9 → Ans := fun _ K => fun _ => K (.int .i64 (10)) []
theorem fnq9_ok (a : Aq9) (K : AV → List AE.Obj → Ans) : fnE Try.tab envq9 noHint 0 70 12 Try.f12.ntmps Try.f12.results.toList annq9 bq9 (argsq9 a).1 (argsq9 a).2 K = fnq9 a (outq9 a K) := by kernel_rfl
def vFq9 (a : Aq9) (K : AV → List AE.Obj → Ans) : Ans := bindO (fnDq9 a) fun y => outq9 a K y
def Fq9 : List AV → List AE.Obj → (AV → List AE.Obj → Ans) → Ans := fun l H K => bindO (decAq9 l H) fun a => vFq9 a K
theorem Fq9_ok : FuncOk Try.prog 12 Fq9 := func_mkD (hint := noHint) (d := 0) (n := 70) mixed tabOk envq9Ok Try.func12 (bodySome (by kernel_rfl)) (by decide +kernel) annq9_ok decAq9_ok fnq9_ok fnq9_nat
--@ client_Client_Over_3
noncomputable def envq10 : Env := [(21,.func Fq22)]
theorem envq10Ok : EnvOk Try.prog envq10 := EnvOk.cons Fq22_ok (EnvOk.nil)
noncomputable def bq10 : Code := Try.f12.body.getD .skip
noncomputable def annq10 : Ann := .none
theorem annq10_ok : AnnOk Try.prog 47 bq10 annq10 := (annOk_none _ _ _)
abbrev Aq10 := (Int) × (List (Int × List UInt8)) × (List (Int × Int))
abbrev Yq10 := (Int)
def fnq10 {β : Type} : Aq10 → (Yq10 → Option β) → Option β := fun (o0_2,o1,o2) exit => (bindO (fnDq22 (IntKind.wrap .i64 ((1 : Int) - o0_2),o1,[])) fun _ => (exit (IntKind.wrap .i64 ((1 : Int) - o0_2))))
def fnDq10 (a : Aq10) : Option Yq10 := fnq10 a some
theorem fnq10_nat (a : Aq10) (k : Yq10 → Ans) : fnq10 a k = bindO (fnDq10 a) k := by
  obtain ⟨o0_2,o1,o2⟩ := a
  simp only [fnDq10,fnq10,bindO_cond,bindO_assoc,bindO_none,bindO_pure,bindO_elim,bindO_unP,bindO_empty]
def argsq10 : Aq10 → List AV × List AE.Obj := fun (o0_2,o1,o2) => ([.ptr 0 0],[.cells [.nili,.nili,.int .i64 o0_2,.own 1,.own 2],.arr (.st (.pair (.int .i64) .str)) o1,.arr (.st (.pair (.int .i64) (.int .i64))) o2])
def decPAq10 (l : List AV) (H : List AE.Obj) : Option {a : Aq10 // (l,H) = argsq10 a} := match l,H with
  | [.ptr 0 0],[.cells [.nili,.nili,.int .i64 o0_2,.own 1,.own 2],.arr (.st (.pair (.int .i64) .str)) o1,.arr (.st (.pair (.int .i64) (.int .i64))) o2] => some ⟨(o0_2,o1,o2),rfl⟩
  | _,_ => none
def decAq10 (l : List AV) (H : List AE.Obj) : Option Aq10 := pk (decPAq10 l H)
theorem decAq10_ok (l : List AV) (H : List AE.Obj) (a : Aq10) (h : decAq10 l H = some a) : (l,H) = argsq10 a := pk_ok (o := decPAq10 l H) h
def outq10 : Aq10 → (AV → List AE.Obj → Ans) → Yq10 → Ans := fun (o0_2,o1,o2) K => fun o0_2_y => K (.int .i64 (10)) [.cells [.nili,.nili,.int .i64 o0_2_y,.own 1,.own 3],.arr (.st (.pair (.int .i64) .str)) o1,.arr (.st (.pair (.int .i64) (.int .i64))) o2,.arr (.st (.pair (.int .i64) (.int .i64))) ([])]
theorem fnq10_ok (a : Aq10) (K : AV → List AE.Obj → Ans) : fnE Try.tab envq10 noHint 0 70 12 Try.f12.ntmps Try.f12.results.toList annq10 bq10 (argsq10 a).1 (argsq10 a).2 K = fnq10 a (outq10 a K) := by kernel_rfl
def vFq10 (a : Aq10) (K : AV → List AE.Obj → Ans) : Ans := bindO (fnDq10 a) fun y => outq10 a K y
def Fq10 : List AV → List AE.Obj → (AV → List AE.Obj → Ans) → Ans := fun l H K => bindO (decAq10 l H) fun a => vFq10 a K
theorem Fq10_ok : FuncOk Try.prog 12 Fq10 := func_mkD (hint := noHint) (d := 0) (n := 70) mixed tabOk envq10Ok Try.func12 (bodySome (by kernel_rfl)) (by decide +kernel) annq10_ok decAq10_ok fnq10_ok fnq10_nat
--@ client_Client_Kept_2
noncomputable def envq6 : Env := []
theorem envq6Ok : EnvOk Try.prog envq6 := EnvOk.nil
noncomputable def bq6 : Code := Try.f11.body.getD .skip
noncomputable def annq6 : Ann := .none
theorem annq6_ok : AnnOk Try.prog 19 bq6 annq6 := (annOk_none _ _ _)
abbrev Aq6 := Unit
abbrev Yq6 := Unit
def fnq6 {β : Type} : Aq6 → (Yq6 → Option β) → Option β := fun _ exit => (exit ())
def fnDq6 (a : Aq6) : Option Yq6 := fnq6 a some
theorem fnq6_nat (a : Aq6) (k : Yq6 → Ans) : fnq6 a k = bindO (fnDq6 a) k := by
  obtain z := a
  simp only [fnDq6,fnq6,bindO_cond,bindO_assoc,bindO_none,bindO_pure,bindO_elim,bindO_unP,bindO_empty]
def argsq6 : Aq6 → List AV × List AE.Obj := fun _ => ([.nilp],[])
def decPAq6 (l : List AV) (H : List AE.Obj) : Option {a : Aq6 // (l,H) = argsq6 a} := match l,H with
  | [.nilp],[] => some ⟨(),rfl⟩
  | _,_ => none
def decAq6 (l : List AV) (H : List AE.Obj) : Option Aq6 := pk (decPAq6 l H)
theorem decAq6_ok (l : List AV) (H : List AE.Obj) (a : Aq6) (h : decAq6 l H = some a) : (l,H) = argsq6 a := pk_ok (o := decPAq6 l H) h
def outq6 : Aq6 → (AV → List AE.Obj → Ans) → Yq6 → Ans := fun _ K => fun _ => K (.own 0) [.arr (.st (.pair (.int .i64) .str)) ([])]
theorem fnq6_ok (a : Aq6) (K : AV → List AE.Obj → Ans) : fnE Try.tab envq6 noHint 0 70 11 Try.f11.ntmps Try.f11.results.toList annq6 bq6 (argsq6 a).1 (argsq6 a).2 K = fnq6 a (outq6 a K) := by kernel_rfl
def vFq6 (a : Aq6) (K : AV → List AE.Obj → Ans) : Ans := bindO (fnDq6 a) fun y => outq6 a K y
def Fq6 : List AV → List AE.Obj → (AV → List AE.Obj → Ans) → Ans := fun l H K => bindO (decAq6 l H) fun a => vFq6 a K
theorem Fq6_ok : FuncOk Try.prog 11 Fq6 := func_mkD (hint := noHint) (d := 0) (n := 70) mixed tabOk envq6Ok Try.func11 (bodySome (by kernel_rfl)) (by decide +kernel) annq6_ok decAq6_ok fnq6_ok fnq6_nat
--@ client_Client_Kept_3
noncomputable def envq7 : Env := []
theorem envq7Ok : EnvOk Try.prog envq7 := EnvOk.nil
noncomputable def bq7 : Code := Try.f11.body.getD .skip
noncomputable def annq7 : Ann := .none
theorem annq7_ok : AnnOk Try.prog 19 bq7 annq7 := (annOk_none _ _ _)
abbrev Aq7 := (Int) × (List (Int × List UInt8)) × (List (Int × Int))
abbrev Yq7 := (List (Int × List UInt8))
def fnq7 {β : Type} : Aq7 → (Yq7 → Option β) → Option β := fun (o0_2,o1,o2) exit => (bif decide ((0 : Int) ≤ (↑(List.length o1) : Int)) && decide ((↑(List.length o1) : Int) ≤ (↑(List.length o1) : Int)) && decide ((24 : Int) * (↑(List.length o1) : Int) ≤ (281474976710656 : Int)) && decide ((↑(List.length o1) : Int) ≤ (9223372036854775807 : Int)) then (exit (List.take (List.length (List.replicate (Int.toNat (↑(List.length o1) : Int)) ((0 : Int),nilL UInt8))) o1 ++ List.drop (List.length o1) (List.replicate (Int.toNat (↑(List.length o1) : Int)) ((0 : Int),nilL UInt8)))) else none)
def fnDq7 (a : Aq7) : Option Yq7 := fnq7 a some
theorem fnq7_nat (a : Aq7) (k : Yq7 → Ans) : fnq7 a k = bindO (fnDq7 a) k := by
  obtain ⟨o0_2,o1,o2⟩ := a
  simp only [fnDq7,fnq7,bindO_cond,bindO_assoc,bindO_none,bindO_pure,bindO_elim,bindO_unP,bindO_empty]
def argsq7 : Aq7 → List AV × List AE.Obj := fun (o0_2,o1,o2) => ([.ptr 0 0],[.cells [.nili,.nili,.int .i64 o0_2,.own 1,.own 2],.arr (.st (.pair (.int .i64) .str)) o1,.arr (.st (.pair (.int .i64) (.int .i64))) o2])
def decPAq7 (l : List AV) (H : List AE.Obj) : Option {a : Aq7 // (l,H) = argsq7 a} := match l,H with
  | [.ptr 0 0],[.cells [.nili,.nili,.int .i64 o0_2,.own 1,.own 2],.arr (.st (.pair (.int .i64) .str)) o1,.arr (.st (.pair (.int .i64) (.int .i64))) o2] => some ⟨(o0_2,o1,o2),rfl⟩
  | _,_ => none
def decAq7 (l : List AV) (H : List AE.Obj) : Option Aq7 := pk (decPAq7 l H)
theorem decAq7_ok (l : List AV) (H : List AE.Obj) (a : Aq7) (h : decAq7 l H = some a) : (l,H) = argsq7 a := pk_ok (o := decPAq7 l H) h
def outq7 : Aq7 → (AV → List AE.Obj → Ans) → Yq7 → Ans := fun (o0_2,o1,o2) K => fun o3_y => K (.own 3) [.cells [.nili,.nili,.int .i64 o0_2,.own 1,.own 2],.arr (.st (.pair (.int .i64) .str)) o1,.arr (.st (.pair (.int .i64) (.int .i64))) o2,.arr (.st (.pair (.int .i64) .str)) o3_y]
theorem fnq7_ok (a : Aq7) (K : AV → List AE.Obj → Ans) : fnE Try.tab envq7 noHint 0 70 11 Try.f11.ntmps Try.f11.results.toList annq7 bq7 (argsq7 a).1 (argsq7 a).2 K = fnq7 a (outq7 a K) := by kernel_rfl
def vFq7 (a : Aq7) (K : AV → List AE.Obj → Ans) : Ans := bindO (fnDq7 a) fun y => outq7 a K y
def Fq7 : List AV → List AE.Obj → (AV → List AE.Obj → Ans) → Ans := fun l H K => bindO (decAq7 l H) fun a => vFq7 a K
theorem Fq7_ok : FuncOk Try.prog 11 Fq7 := func_mkD (hint := noHint) (d := 0) (n := 70) mixed tabOk envq7Ok Try.func11 (bodySome (by kernel_rfl)) (by decide +kernel) annq7_ok decAq7_ok fnq7_ok fnq7_nat
--@ law44_ClientNone
noncomputable def envq25 : Env := [(6,.pure Fq30),(8,.func Fq24),(20,.func (altF decAq14 vFq14 Fq15)),(10,.func (altF decAq3 vFq3 Fq4)),(18,.func (altF decAq11 vFq11 Fq12)),(13,.func Fq1),(9,.func (altF decAq17 vFq17 Fq18)),(12,.func (altF decAq9 vFq9 Fq10)),(11,.func (altF decAq6 vFq6 Fq7))]
theorem envq25Ok : EnvOk Try.prog envq25 := EnvOk.cons Fq30_ok (EnvOk.cons Fq24_ok (EnvOk.cons (func_altF Fq14_ok Fq15_ok) (EnvOk.cons (func_altF Fq3_ok Fq4_ok) (EnvOk.cons (func_altF Fq11_ok Fq12_ok) (EnvOk.cons Fq1_ok (EnvOk.cons (func_altF Fq17_ok Fq18_ok) (EnvOk.cons (func_altF Fq9_ok Fq10_ok) (EnvOk.cons (func_altF Fq6_ok Fq7_ok) (EnvOk.nil)))))))))
noncomputable def bq25 : Code := Try.f5.body.getD .skip
noncomputable def Lq25_n1 : Code := codeAt [1,1,1,1,1,1,1,1,1,1,0] bq25
noncomputable def annLq25_n1 : Ann := .none
theorem annLq25_n1_ok : AnnOk Try.prog 104 Lq25_n1 annLq25_n1 := (annOk_none _ _ _)
abbrev Iq25_n1 := (Int) × (List UInt8)
abbrev Yq25_n1 := (Bool)
def Sq25_n1 : Iq25_n1 → St := fun (t0,t1) => { env := [(0,.int .i64 t0),(1,.str t1),(5,.nilp),(6,.ptr 0 0)],stk := [[]],H := [.cells [.nili,.nili,.int .i64 (0),.own 1,.own 2],.arr (.st (.pair (.int .i64) .str)) ([]),.arr (.st (.pair (.int .i64) (.int .i64))) ([])],blk := 20480 }
def decPq25_n1 (s : St) : Option {x : Iq25_n1 // s = Sq25_n1 x} := match s with
  | { env := [(0,.int .i64 t0),(1,.str t1),(5,.nilp),(6,.ptr 0 0)],stk := [[]],H := [.cells [.nili,.nili,.int .i64 r2,.own 1,.own 2],.arr (.st (.pair (.int .i64) .str)) r3,.arr (.st (.pair (.int .i64) (.int .i64))) r4],blk := 20480 } => if h2 : r2 = 0 then if h3 : r3 = [] then if h4 : r4 = [] then some ⟨(t0,t1),by subst h2 h3 h4; rfl⟩ else none else none else none
  | _ => none
def decq25_n1 (s : St) : Option Iq25_n1 := pk (decPq25_n1 s)
theorem decq25_n1_ok (s : St) (x : Iq25_n1) (h : decq25_n1 s = some x) : s = Sq25_n1 x := pk_ok (o := decPq25_n1 s) h
def outq25_n1 : Iq25_n1 → (Ex → St → Ans) → Yq25_n1 → Ans := fun (t0,t1) K => fun t4_y => K (Ex.norm) { env := [(4,.bool t4_y)],stk := [[]],H := [],blk := 20480 }
def nodeq25_n1 {β : Type} : Iq25_n1 → (Yq25_n1 → Option β) → Option β := fun (t0,t1) exit => (bindO (fnDq17 (t0,t1)) fun _ => (bindO (fnDq18 (t0,t1,(0 : Int),[],[])) fun _ => (bindO (fnDq9 ()) fun _ => (bindO (fnDq10 ((0 : Int),[],[])) fun o0_2 => (bindO (fnDq6 ()) fun _ => (bindO (fnDq7 (o0_2,[],[])) fun o3 => (exit ((↑(List.length o3) : Int) == (0 : Int)))))))))
def nodeDq25_n1 (i : Iq25_n1) : Option Yq25_n1 := nodeq25_n1 i some
theorem nodeq25_n1_nat (i : Iq25_n1) (k : Yq25_n1 → Ans) : nodeq25_n1 i k = bindO (nodeDq25_n1 i) k := by
  obtain ⟨t0,t1⟩ := i
  simp only [nodeDq25_n1,nodeq25_n1,bindO_cond,bindO_assoc,bindO_none,bindO_pure,bindO_elim,bindO_unP,bindO_empty]
theorem nodeq25_n1_ok (i : Iq25_n1) (K : Ex → St → Ans) : codeI Try.tab envq25 noHint (codeD Try.tab envq25 noHint 0 64) 70 104 annLq25_n1 Lq25_n1 (weakP 0 (exk [4] [4] []) K) (Sq25_n1 i) = nodeq25_n1 i (outq25_n1 i K) := by kernel_rfl
theorem GNq25_n1_ok : CSum Try.prog 104 Lq25_n1 (sumN decq25_n1 nodeDq25_n1 outq25_n1) := csum_node mixed tabOk envq25Ok 0 (exk [4] [4] []) annLq25_n1_ok decq25_n1_ok nodeq25_n1_ok nodeq25_n1_nat
noncomputable def Gq25_n1 : (Ex → St → Ans) → St → Ans := (sumN decq25_n1 nodeDq25_n1 outq25_n1)
theorem Gq25_n1_ok : CSum Try.prog 104 Lq25_n1 Gq25_n1 := GNq25_n1_ok
noncomputable def Lq25_n0 : Code := codeAt [1,1,1,1,1,1,1,1,1,0,0] bq25
noncomputable def annLq25_n0 : Ann := .none
theorem annLq25_n0_ok : AnnOk Try.prog 104 Lq25_n0 annLq25_n0 := (annOk_none _ _ _)
abbrev Iq25_n0 := (Int) × (List UInt8)
abbrev Yq25_n0 := Unit
def Sq25_n0 : Iq25_n0 → St := fun (t0,t1) => { env := [(0,.int .i64 t0),(1,.str t1),(5,.nilp),(6,.ptr 0 0),(8,.int .i64 (10)),(10,.int .i64 (10)),(12,.int .i64 (10)),(14,.int .i64 (10))],stk := [[]],H := [.cells [.nili,.nili,.int .i64 (0),.own 1,.own 2],.arr (.st (.pair (.int .i64) .str)) ([]),.arr (.st (.pair (.int .i64) (.int .i64))) ([])],blk := 20480 }
def decPq25_n0 (s : St) : Option {x : Iq25_n0 // s = Sq25_n0 x} := match s with
  | { env := [(0,.int .i64 t0),(1,.str t1),(5,.nilp),(6,.ptr 0 0),(8,.int .i64 r2),(10,.int .i64 r3),(12,.int .i64 r4),(14,.int .i64 r5)],stk := [[]],H := [.cells [.nili,.nili,.int .i64 r6,.own 1,.own 2],.arr (.st (.pair (.int .i64) .str)) r7,.arr (.st (.pair (.int .i64) (.int .i64))) r8],blk := 20480 } => if h2 : r2 = 10 then if h3 : r3 = 10 then if h4 : r4 = 10 then if h5 : r5 = 10 then if h6 : r6 = 0 then if h7 : r7 = [] then if h8 : r8 = [] then some ⟨(t0,t1),by subst h2 h3 h4 h5 h6 h7 h8; rfl⟩ else none else none else none else none else none else none else none
  | _ => none
def decq25_n0 (s : St) : Option Iq25_n0 := pk (decPq25_n0 s)
theorem decq25_n0_ok (s : St) (x : Iq25_n0) (h : decq25_n0 s = some x) : s = Sq25_n0 x := pk_ok (o := decPq25_n0 s) h
def outq25_n0 : Iq25_n0 → (Ex → St → Ans) → Yq25_n0 → Ans := fun (t0,t1) K => fun _ => K (Ex.norm) { env := [(0,.int .i64 t0),(1,.str t1),(5,.nilp),(6,.ptr 0 0),(69,.bool (false))],stk := [[]],H := [.cells [.nili,.nili,.int .i64 (0),.own 1,.own 2],.arr (.st (.pair (.int .i64) .str)) ([]),.arr (.st (.pair (.int .i64) (.int .i64))) ([])],blk := 20480 }
def nodeq25_n0 {β : Type} : Iq25_n0 → (Yq25_n0 → Option β) → Option β := fun (t0,t1) exit => (bindO (fnDq11 ()) fun _ => (bindO (fnDq12 ((0 : Int),[],[])) fun _ => (bindO (fnDq1 ()) fun _ => (exit ()))))
def nodeDq25_n0 (i : Iq25_n0) : Option Yq25_n0 := nodeq25_n0 i some
theorem nodeq25_n0_nat (i : Iq25_n0) (k : Yq25_n0 → Ans) : nodeq25_n0 i k = bindO (nodeDq25_n0 i) k := by
  obtain ⟨t0,t1⟩ := i
  simp only [nodeDq25_n0,nodeq25_n0,bindO_cond,bindO_assoc,bindO_none,bindO_pure,bindO_elim,bindO_unP,bindO_empty]
theorem nodeq25_n0_ok (i : Iq25_n0) (K : Ex → St → Ans) : codeI Try.tab envq25 noHint (codeD Try.tab envq25 noHint 0 64) 70 104 annLq25_n0 Lq25_n0 (weakP 0 (exk [0,1,5,6,69] [4] []) K) (Sq25_n0 i) = nodeq25_n0 i (outq25_n0 i K) := by kernel_rfl
theorem GNq25_n0_ok : CSum Try.prog 104 Lq25_n0 (sumN decq25_n0 nodeDq25_n0 outq25_n0) := csum_node mixed tabOk envq25Ok 0 (exk [0,1,5,6,69] [4] []) annLq25_n0_ok decq25_n0_ok nodeq25_n0_ok nodeq25_n0_nat
noncomputable def Gq25_n0 : (Ex → St → Ans) → St → Ans := (sumN decq25_n0 nodeDq25_n0 outq25_n0)
theorem Gq25_n0_ok : CSum Try.prog 104 Lq25_n0 Gq25_n0 := GNq25_n0_ok
noncomputable def annq25 : Ann := (.seq .none (.seq .none (.seq .none (.seq .none (.seq .none (.seq .none (.seq .none (.seq .none (.seq .none (.seq (.seq (.cut 0 [0,1,5,6,8,10,12,14] Gq25_n0) .none) (.seq (.cut 0 [0,1,5,6] Gq25_n1) .none)))))))))))
theorem annq25_ok : AnnOk Try.prog 104 bq25 annq25 := ⟨(annOk_none _ _ _),⟨(annOk_none _ _ _),⟨(annOk_none _ _ _),⟨(annOk_none _ _ _),⟨(annOk_none _ _ _),⟨(annOk_none _ _ _),⟨(annOk_none _ _ _),⟨(annOk_none _ _ _),⟨(annOk_none _ _ _),⟨⟨Gq25_n0_ok,(annOk_none _ _ _)⟩,⟨Gq25_n1_ok,(annOk_none _ _ _)⟩⟩⟩⟩⟩⟩⟩⟩⟩⟩⟩
abbrev Aq25 := (Int) × (List UInt8)
abbrev Yq25 := (Bool)
def fnq25 {β : Type} : Aq25 → (Yq25 → Option β) → Option β := fun (a0,a1) exit => (bindO (fnDq30 ()) fun r => (bif !r then (exit (false)) else (bif decide ((↑(List.length a1) : Int) > (1000 : Int)) then (exit (true)) else (bindO (fnDq24 ()) fun _ => (bindO (fnDq14 (a0)) fun _ => (bindO (fnDq15 (a0,(0 : Int),[],[])) fun _ => (bindO (fnDq3 ()) fun _ => (bindO (fnDq4 ((0 : Int),[],[])) fun _ => (bindO (nodeDq25_n0 (a0,a1)) fun _ => (bindO (nodeDq25_n1 (a0,a1)) fun t4 => (exit (t4))))))))))))
def fnDq25 (a : Aq25) : Option Yq25 := fnq25 a some
theorem fnq25_nat (a : Aq25) (k : Yq25 → Ans) : fnq25 a k = bindO (fnDq25 a) k := by
  obtain ⟨a0,a1⟩ := a
  simp only [fnDq25,fnq25,bindO_cond,bindO_assoc,bindO_none,bindO_pure,bindO_elim,bindO_unP,bindO_empty]
def argsq25 : Aq25 → List AV × List AE.Obj := fun (a0,a1) => ([.int .i64 a0,.str a1],[])
def decPAq25 (l : List AV) (H : List AE.Obj) : Option {a : Aq25 // (l,H) = argsq25 a} := match l,H with
  | [.int .i64 a0,.str a1],[] => some ⟨(a0,a1),rfl⟩
  | _,_ => none
def decAq25 (l : List AV) (H : List AE.Obj) : Option Aq25 := pk (decPAq25 l H)
theorem decAq25_ok (l : List AV) (H : List AE.Obj) (a : Aq25) (h : decAq25 l H = some a) : (l,H) = argsq25 a := pk_ok (o := decPAq25 l H) h
def outq25 : Aq25 → (AV → List AE.Obj → Ans) → Yq25 → Ans := fun (a0,a1) K => fun r_y => K (.bool r_y) []
theorem fnq25_ok (a : Aq25) (K : AV → List AE.Obj → Ans) : fnE Try.tab envq25 noHint 0 70 5 Try.f5.ntmps Try.f5.results.toList annq25 bq25 (argsq25 a).1 (argsq25 a).2 K = fnq25 a (outq25 a K) := by kernel_rfl
def vFq25 (a : Aq25) (K : AV → List AE.Obj → Ans) : Ans := bindO (fnDq25 a) fun y => outq25 a K y
def Fq25 : List AV → List AE.Obj → (AV → List AE.Obj → Ans) → Ans := fun l H K => bindO (decAq25 l H) fun a => vFq25 a K
theorem Fq25_ok : FuncOk Try.prog 5 Fq25 := func_mkD (hint := noHint) (d := 0) (n := 70) mixed tabOk envq25Ok Try.func5 (bodySome (by kernel_rfl)) (by decide +kernel) annq25_ok decAq25_ok fnq25_ok fnq25_nat
end Go.Proofs.R8
namespace Go.Proofs.R8
open Go Go.AE
theorem works44 : fnDq30 () = some true := by kernel_rfl
theorem none_n0 (i : Int) (s : List UInt8) : nodeDq25_n0 (i, s) = some () := rfl
theorem none_w3 (i : Int) (s : List UInt8) : ∃ y, fnDq18 (i, s, 0, [], []) = some y := ⟨_, rfl⟩
theorem ClientNone_true (i : Int) (s : List UInt8) : fnDq25 (i, s) = some true := by
  simp only [fnDq25, fnq25, works44, bindO]
  cases decide ((s.length : Int) > 1000)
  · rfl
  · rfl
end Go.Proofs.R8

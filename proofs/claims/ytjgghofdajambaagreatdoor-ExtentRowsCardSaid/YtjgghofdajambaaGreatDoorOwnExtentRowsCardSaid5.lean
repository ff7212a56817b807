/- What the functions that ExtentRowsCardSaid reaches compute: part 5. -/
import Derived.Test.YtjgghofdajambaaGreatDoorOwnExtentRowsCardSaid4
set_option linter.unusedVariables false
set_option linter.unusedSimpArgs false
namespace Go.Proofs.R7
open Go Go.AE
set_option maxRecDepth 100000
def sure9 : List (List UInt8) := List.replicate 35 (List.replicate 64 0) ++ [([76, 0, 0, 0, 0, 0, 2, 0, 0, 0, 0, 0, 25, 0, 0, 7, 97, 220, 101] ++ List.replicate 45 0), ([76, 0, 0, 0, 0, 0, 1, 0, 0, 0, 0, 0, 1, 0, 0, 10, 175, 100, 78] ++ List.replicate 45 0)] ++ List.replicate 22 (List.replicate 64 0)
def begun9H : List AE.Obj :=
  [.cells [(.own 2), (.map 3), (.own 4), (.int .i64 33), (.own 5), (.int .i64 0), (.bool false)],
  .cells [(.ptr 0 0), (.ptr 6 0), (.ptr 7 0), (.int .i64 35), (.int .i64 24), (.int .i64 2), (.int .i64 0), (.int .i64 25), (.int .i64 0), (.bool true), (.bool false), (.ptr 8 0)],
  .arr .str sure9,
  .mp .i64 .str [],
  .arr (.st (.pair (.int .i64) .str)) [],
  .arr (.int .i64) [],
  .cells [(.ptr 0 0), (.int .i64 35), (.int .i64 2)],
  .cells [(.ptr 0 0), (.int .i64 37), (.int .i64 22)],
  .cells [(.map 9), (.map 10)],
  .mp .i64 .str [],
  .mp .i64 .str []]
def begun9V : AV := (.tup [(.ptr 0 0), (.ptr 1 0)])
theorem runBegun9 (K : AV → List AE.Obj → Ans) : runQ Tryz.tab lo7x ⟨35, false, []⟩ Tryz.f35 [.agg [.int .i64 9, .int .i64 2, .int .i64 24]] [] K = K begun9V begun9H := by kernel_rfl
abbrev Alaw16_Begun9 := Int × Int × Int
abbrev Ylaw16_Begun9 := Unit
def fnDlaw16_Begun9 (a : Alaw16_Begun9) : Option Ylaw16_Begun9 := cond (a.1 == 9 && a.2.1 == 2 && a.2.2 == 24) (some ()) none
def decAlaw16_Begun9 (l : List AV) (H : List AE.Obj) : Option Alaw16_Begun9 := match l, H with
  | [.agg [.int .i64 a, .int .i64 b, .int .i64 c]], [] => some (a, b, c)
  | _, _ => none
def Flaw16_Begun9 : List AV → List AE.Obj → (AV → List AE.Obj → Ans) → Ans := fun l H K => bindO (decAlaw16_Begun9 l H) fun a => bindO (fnDlaw16_Begun9 a) fun _ => K begun9V begun9H
theorem Flaw16_Begun9_ok : FuncOk Tryz.prog 35 Flaw16_Begun9 :=
  konstHQ (i := ⟨35, false, []⟩) mixed tabOk lo7x_ok Tryz.func35 (by kernel_rfl) (by decide +kernel) (fun l H K res h => by
    unfold Flaw16_Begun9 decAlaw16_Begun9 at h
    split at h
    · rename_i a b c
      simp only [bindO, fnDlaw16_Begun9] at h
      by_cases hc : (a == 9 && b == 2 && c == 24) = true
      · simp only [hc, cond_true] at h
        simp only [Bool.and_eq_true, beq_iff_eq] at hc
        obtain ⟨⟨rfl, rfl⟩, rfl⟩ := hc
        exact ⟨rfl, rfl, h⟩
      · simp only [Bool.not_eq_true] at hc
        simp only [hc, cond_false] at h
        cases h
    · cases h) runBegun9
end Go.Proofs.R7
namespace Go.Proofs.R7R
open Go Go.AE
open Go.Proofs.R7 (tabOk mixed Flaw16_Begun9 Flaw16_Begun9_ok fnDlaw16_Begun9 sure9 Flaw20_works Flaw20_works_ok fnDlaw20_works Fstrings_Repeat_ok FBuilder_copyCheck_ok FBuilder_String_ok FBuilder_StringAgain_ok iter205_spec)
set_option maxRecDepth 100000
--@ wal_Wal_Active
noncomputable def envq80 : Env := []
theorem envq80Ok : EnvOk Tryz.prog envq80 := EnvOk.nil
noncomputable def bq80 : Code := Tryz.f33.body.getD .skip
noncomputable def Lq80_n0 : Code := codeAt [1,0] bq80
noncomputable def annLq80_n0 : Ann := .none
theorem annLq80_n0_ok : AnnOk Tryz.prog 11 Lq80_n0 annLq80_n0 := (annOk_none _ _ _)
abbrev Iq80_n0 := (Int) × (Int) × (Int) × (Int) × (Int) × (Int) × (Bool) × (Bool) × (Int) × (Int) × (Bool) × (Int) × (Int) × (Int) × (Int) × (List (List UInt8)) × (List (Int × List UInt8)) × (List (Int × List UInt8)) × (List Int) × (List (Int × List UInt8)) × (List (Int × List UInt8))
abbrev Yq80_n0 := Unit
def Sq80_n0 : Iq80_n0 → St := fun (o0_3,o0_4,o0_5,o0_6,o0_7,o0_8,o0_9,o0_10,o1_3,o1_5,o1_6,o2_1,o2_2,o3_1,o3_2,o5,o6,o7,o8,o9,o10) => { env := [(0,.ptr 0 0)],stk := [[(0,.ptr 0 0),(1,.ptr 1 0),(2,.ptr 2 0),(3,.ptr 3 0),(4,.ptr 4 0),(6,.map 6),(9,.map 9),(10,.map 10)]],H := [.cells [.ptr 1 0,.ptr 2 0,.ptr 3 0,.int .i64 o0_3,.int .i64 o0_4,.int .i64 o0_5,.int .i64 o0_6,.int .i64 o0_7,.int .i64 o0_8,.bool o0_9,.bool o0_10,.ptr 4 0],.cells [.own 5,.map 6,.own 7,.int .i64 o1_3,.own 8,.int .i64 o1_5,.bool o1_6],.cells [.ptr 1 0,.int .i64 o2_1,.int .i64 o2_2],.cells [.ptr 1 0,.int .i64 o3_1,.int .i64 o3_2],.cells [.map 9,.map 10],.arr .str o5,.mp .i64 .str o6,.arr (.st (.pair (.int .i64) .str)) o7,.arr (.int .i64) o8,.mp .i64 .str o9,.mp .i64 .str o10],blk := 135168 }
def decPq80_n0 (s : St) : Option {x : Iq80_n0 // s = Sq80_n0 x} := match s with
  | { env := [(0,.ptr 0 0)],stk := [[(0,.ptr 0 0),(1,.ptr 1 0),(2,.ptr 2 0),(3,.ptr 3 0),(4,.ptr 4 0),(6,.map 6),(9,.map 9),(10,.map 10)]],H := [.cells [.ptr 1 0,.ptr 2 0,.ptr 3 0,.int .i64 o0_3,.int .i64 o0_4,.int .i64 o0_5,.int .i64 o0_6,.int .i64 o0_7,.int .i64 o0_8,.bool o0_9,.bool o0_10,.ptr 4 0],.cells [.own 5,.map 6,.own 7,.int .i64 o1_3,.own 8,.int .i64 o1_5,.bool o1_6],.cells [.ptr 1 0,.int .i64 o2_1,.int .i64 o2_2],.cells [.ptr 1 0,.int .i64 o3_1,.int .i64 o3_2],.cells [.map 9,.map 10],.arr .str o5,.mp .i64 .str o6,.arr (.st (.pair (.int .i64) .str)) o7,.arr (.int .i64) o8,.mp .i64 .str o9,.mp .i64 .str o10],blk := 135168 } => some ⟨(o0_3,o0_4,o0_5,o0_6,o0_7,o0_8,o0_9,o0_10,o1_3,o1_5,o1_6,o2_1,o2_2,o3_1,o3_2,o5,o6,o7,o8,o9,o10),rfl⟩
  | _ => none
def decq80_n0 (s : St) : Option Iq80_n0 := pk (decPq80_n0 s)
theorem decq80_n0_ok (s : St) (x : Iq80_n0) (h : decq80_n0 s = some x) : s = Sq80_n0 x := pk_ok (o := decPq80_n0 s) h
def outq80_n0 : Iq80_n0 → (Ex → St → Ans) → Yq80_n0 → Ans := fun (o0_3,o0_4,o0_5,o0_6,o0_7,o0_8,o0_9,o0_10,o1_3,o1_5,o1_6,o2_1,o2_2,o3_1,o3_2,o5,o6,o7,o8,o9,o10) K => fun _ => K (Ex.norm) { env := [(2,.bool o0_9)],stk := [[(0,.ptr 0 0),(1,.ptr 1 0),(2,.ptr 2 0),(3,.ptr 3 0),(4,.ptr 4 0),(6,.map 6),(9,.map 9),(10,.map 10)]],H := [.cells [.ptr 1 0,.ptr 2 0,.ptr 3 0,.int .i64 o0_3,.int .i64 o0_4,.int .i64 o0_5,.int .i64 o0_6,.int .i64 o0_7,.int .i64 o0_8,.bool o0_9,.bool o0_10,.ptr 4 0],.cells [.own 5,.map 6,.own 7,.int .i64 o1_3,.own 8,.int .i64 o1_5,.bool o1_6],.cells [.ptr 1 0,.int .i64 o2_1,.int .i64 o2_2],.cells [.ptr 1 0,.int .i64 o3_1,.int .i64 o3_2],.cells [.map 9,.map 10],.arr .str o5,.mp .i64 .str o6,.arr (.st (.pair (.int .i64) .str)) o7,.arr (.int .i64) o8,.mp .i64 .str o9,.mp .i64 .str o10],blk := 135168 }
def nodeq80_n0 {β : Type} : Iq80_n0 → (Yq80_n0 → Option β) → Option β := fun (o0_3,o0_4,o0_5,o0_6,o0_7,o0_8,o0_9,o0_10,o1_3,o1_5,o1_6,o2_1,o2_2,o3_1,o3_2,o5,o6,o7,o8,o9,o10) exit => (exit ())
def nodeDq80_n0 (i : Iq80_n0) : Option Yq80_n0 := nodeq80_n0 i some
theorem nodeq80_n0_nat (i : Iq80_n0) (k : Yq80_n0 → Ans) : nodeq80_n0 i k = bindO (nodeDq80_n0 i) k := by
  obtain ⟨o0_3,o0_4,o0_5,o0_6,o0_7,o0_8,o0_9,o0_10,o1_3,o1_5,o1_6,o2_1,o2_2,o3_1,o3_2,o5,o6,o7,o8,o9,o10⟩ := i
  simp only [nodeDq80_n0,nodeq80_n0,bindO_cond,bindO_assoc,bindO_none,bindO_pure,bindO_elim,bindO_unP,bindO_empty]
theorem nodeq80_n0_ok (i : Iq80_n0) (K : Ex → St → Ans) : codeI Tryz.tab envq80 noHint (codeD Tryz.tab envq80 noHint 0 64) 70 11 annLq80_n0 Lq80_n0 (weakP 11 (exk [2] [2] []) K) (Sq80_n0 i) = nodeq80_n0 i (outq80_n0 i K) := by kernel_rfl
theorem GNq80_n0_ok : CSum Tryz.prog 11 Lq80_n0 (sumN decq80_n0 nodeDq80_n0 outq80_n0) := csum_node mixed tabOk envq80Ok 11 (exk [2] [2] []) annLq80_n0_ok decq80_n0_ok nodeq80_n0_ok nodeq80_n0_nat
noncomputable def Gq80_n0 : (Ex → St → Ans) → St → Ans := (sumN decq80_n0 nodeDq80_n0 outq80_n0)
theorem Gq80_n0_ok : CSum Tryz.prog 11 Lq80_n0 Gq80_n0 := GNq80_n0_ok
noncomputable def annq80 : Ann := (.seq .none (.seq (.cut 11 [0] Gq80_n0) .none))
theorem annq80_ok : AnnOk Tryz.prog 11 bq80 annq80 := ⟨(annOk_none _ _ _),⟨Gq80_n0_ok,(annOk_none _ _ _)⟩⟩
abbrev Aq80 := (Int) × (Int) × (Int) × (Int) × (Int) × (Int) × (Bool) × (Bool) × (Int) × (Int) × (Bool) × (Int) × (Int) × (Int) × (Int) × (List (List UInt8)) × (List (Int × List UInt8)) × (List (Int × List UInt8)) × (List Int) × (List (Int × List UInt8)) × (List (Int × List UInt8))
abbrev Yq80 := Unit
def fnq80 {β : Type} : Aq80 → (Yq80 → Option β) → Option β := fun (o0_3,o0_4,o0_5,o0_6,o0_7,o0_8,o0_9,o0_10,o1_3,o1_5,o1_6,o2_1,o2_2,o3_1,o3_2,o5,o6,o7,o8,o9,o10) exit => (bindO (nodeDq80_n0 (o0_3,o0_4,o0_5,o0_6,o0_7,o0_8,o0_9,o0_10,o1_3,o1_5,o1_6,o2_1,o2_2,o3_1,o3_2,o5,o6,o7,o8,o9,o10)) fun _ => (exit ()))
def fnDq80 (a : Aq80) : Option Yq80 := fnq80 a some
theorem fnq80_nat (a : Aq80) (k : Yq80 → Ans) : fnq80 a k = bindO (fnDq80 a) k := by
  obtain ⟨o0_3,o0_4,o0_5,o0_6,o0_7,o0_8,o0_9,o0_10,o1_3,o1_5,o1_6,o2_1,o2_2,o3_1,o3_2,o5,o6,o7,o8,o9,o10⟩ := a
  simp only [fnDq80,fnq80,bindO_cond,bindO_assoc,bindO_none,bindO_pure,bindO_elim,bindO_unP,bindO_empty]
def argsq80 : Aq80 → List AV × List AE.Obj := fun (o0_3,o0_4,o0_5,o0_6,o0_7,o0_8,o0_9,o0_10,o1_3,o1_5,o1_6,o2_1,o2_2,o3_1,o3_2,o5,o6,o7,o8,o9,o10) => ([.ptr 0 0],[.cells [.ptr 1 0,.ptr 2 0,.ptr 3 0,.int .i64 o0_3,.int .i64 o0_4,.int .i64 o0_5,.int .i64 o0_6,.int .i64 o0_7,.int .i64 o0_8,.bool o0_9,.bool o0_10,.ptr 4 0],.cells [.own 5,.map 6,.own 7,.int .i64 o1_3,.own 8,.int .i64 o1_5,.bool o1_6],.cells [.ptr 1 0,.int .i64 o2_1,.int .i64 o2_2],.cells [.ptr 1 0,.int .i64 o3_1,.int .i64 o3_2],.cells [.map 9,.map 10],.arr .str o5,.mp .i64 .str o6,.arr (.st (.pair (.int .i64) .str)) o7,.arr (.int .i64) o8,.mp .i64 .str o9,.mp .i64 .str o10])
def decPAq80 (l : List AV) (H : List AE.Obj) : Option {a : Aq80 // (l,H) = argsq80 a} := match l,H with
  | [.ptr 0 0],[.cells [.ptr 1 0,.ptr 2 0,.ptr 3 0,.int .i64 o0_3,.int .i64 o0_4,.int .i64 o0_5,.int .i64 o0_6,.int .i64 o0_7,.int .i64 o0_8,.bool o0_9,.bool o0_10,.ptr 4 0],.cells [.own 5,.map 6,.own 7,.int .i64 o1_3,.own 8,.int .i64 o1_5,.bool o1_6],.cells [.ptr 1 0,.int .i64 o2_1,.int .i64 o2_2],.cells [.ptr 1 0,.int .i64 o3_1,.int .i64 o3_2],.cells [.map 9,.map 10],.arr .str o5,.mp .i64 .str o6,.arr (.st (.pair (.int .i64) .str)) o7,.arr (.int .i64) o8,.mp .i64 .str o9,.mp .i64 .str o10] => some ⟨(o0_3,o0_4,o0_5,o0_6,o0_7,o0_8,o0_9,o0_10,o1_3,o1_5,o1_6,o2_1,o2_2,o3_1,o3_2,o5,o6,o7,o8,o9,o10),rfl⟩
  | _,_ => none
def decAq80 (l : List AV) (H : List AE.Obj) : Option Aq80 := pk (decPAq80 l H)
theorem decAq80_ok (l : List AV) (H : List AE.Obj) (a : Aq80) (h : decAq80 l H = some a) : (l,H) = argsq80 a := pk_ok (o := decPAq80 l H) h
def outq80 : Aq80 → (AV → List AE.Obj → Ans) → Yq80 → Ans := fun (o0_3,o0_4,o0_5,o0_6,o0_7,o0_8,o0_9,o0_10,o1_3,o1_5,o1_6,o2_1,o2_2,o3_1,o3_2,o5,o6,o7,o8,o9,o10) K => fun _ => K (.bool o0_9) [.cells [.ptr 1 0,.ptr 2 0,.ptr 3 0,.int .i64 o0_3,.int .i64 o0_4,.int .i64 o0_5,.int .i64 o0_6,.int .i64 o0_7,.int .i64 o0_8,.bool o0_9,.bool o0_10,.ptr 4 0],.cells [.own 5,.map 6,.own 7,.int .i64 o1_3,.own 8,.int .i64 o1_5,.bool o1_6],.cells [.ptr 1 0,.int .i64 o2_1,.int .i64 o2_2],.cells [.ptr 1 0,.int .i64 o3_1,.int .i64 o3_2],.cells [.map 9,.map 10],.arr .str o5,.mp .i64 .str o6,.arr (.st (.pair (.int .i64) .str)) o7,.arr (.int .i64) o8,.mp .i64 .str o9,.mp .i64 .str o10]
theorem fnq80_ok (a : Aq80) (K : AV → List AE.Obj → Ans) : fnE Tryz.tab envq80 noHint 0 70 33 Tryz.f33.ntmps Tryz.f33.results.toList annq80 bq80 (argsq80 a).1 (argsq80 a).2 K = fnq80 a (outq80 a K) := by kernel_rfl
def vFq80 (a : Aq80) (K : AV → List AE.Obj → Ans) : Ans := bindO (fnDq80 a) fun y => outq80 a K y
def Fq80 : List AV → List AE.Obj → (AV → List AE.Obj → Ans) → Ans := fun l H K => bindO (decAq80 l H) fun a => vFq80 a K
theorem Fq80_ok : FuncOk Tryz.prog 33 Fq80 := func_mkD (hint := noHint) (d := 0) (n := 70) mixed tabOk envq80Ok Tryz.func33 (bodySome (by kernel_rfl)) (by decide +kernel) annq80_ok decAq80_ok fnq80_ok fnq80_nat
--@ disk_Disk_Sectors
noncomputable def envq8 : Env := []
theorem envq8Ok : EnvOk Tryz.prog envq8 := EnvOk.nil
noncomputable def bq8 : Code := Tryz.f161.body.getD .skip
noncomputable def annq8 : Ann := .none
theorem annq8_ok : AnnOk Tryz.prog 10 bq8 annq8 := (annOk_none _ _ _)
abbrev Aq8 := (Int) × (Int) × (Bool) × (List (List UInt8)) × (List (Int × List UInt8)) × (List (Int × List UInt8)) × (List Int)
abbrev Yq8 := (Int)
def fnq8 {β : Type} : Aq8 → (Yq8 → Option β) → Option β := fun (o0_3,o0_5,o0_6,o1,o2,o3,o4) exit => (exit ((↑(List.length o1) : Int)))
def fnDq8 (a : Aq8) : Option Yq8 := fnq8 a some
theorem fnq8_nat (a : Aq8) (k : Yq8 → Ans) : fnq8 a k = bindO (fnDq8 a) k := by
  obtain ⟨o0_3,o0_5,o0_6,o1,o2,o3,o4⟩ := a
  simp only [fnDq8,fnq8,bindO_cond,bindO_assoc,bindO_none,bindO_pure,bindO_elim,bindO_unP,bindO_empty]
def argsq8 : Aq8 → List AV × List AE.Obj := fun (o0_3,o0_5,o0_6,o1,o2,o3,o4) => ([.ptr 0 0],[.cells [.own 1,.map 2,.own 3,.int .i64 o0_3,.own 4,.int .i64 o0_5,.bool o0_6],.arr .str o1,.mp .i64 .str o2,.arr (.st (.pair (.int .i64) .str)) o3,.arr (.int .i64) o4])
def decPAq8 (l : List AV) (H : List AE.Obj) : Option {a : Aq8 // (l,H) = argsq8 a} := match l,H with
  | [.ptr 0 0],[.cells [.own 1,.map 2,.own 3,.int .i64 o0_3,.own 4,.int .i64 o0_5,.bool o0_6],.arr .str o1,.mp .i64 .str o2,.arr (.st (.pair (.int .i64) .str)) o3,.arr (.int .i64) o4] => some ⟨(o0_3,o0_5,o0_6,o1,o2,o3,o4),rfl⟩
  | _,_ => none
def decAq8 (l : List AV) (H : List AE.Obj) : Option Aq8 := pk (decPAq8 l H)
theorem decAq8_ok (l : List AV) (H : List AE.Obj) (a : Aq8) (h : decAq8 l H = some a) : (l,H) = argsq8 a := pk_ok (o := decPAq8 l H) h
def outq8 : Aq8 → (AV → List AE.Obj → Ans) → Yq8 → Ans := fun (o0_3,o0_5,o0_6,o1,o2,o3,o4) K => fun r_y => K (.int .i64 r_y) [.cells [.own 1,.map 2,.own 3,.int .i64 o0_3,.own 4,.int .i64 o0_5,.bool o0_6],.arr .str o1,.mp .i64 .str o2,.arr (.st (.pair (.int .i64) .str)) o3,.arr (.int .i64) o4]
theorem fnq8_ok (a : Aq8) (K : AV → List AE.Obj → Ans) : fnE Tryz.tab envq8 noHint 0 70 161 Tryz.f161.ntmps Tryz.f161.results.toList annq8 bq8 (argsq8 a).1 (argsq8 a).2 K = fnq8 a (outq8 a K) := by kernel_rfl
def vFq8 (a : Aq8) (K : AV → List AE.Obj → Ans) : Ans := bindO (fnDq8 a) fun y => outq8 a K y
def Fq8 : List AV → List AE.Obj → (AV → List AE.Obj → Ans) → Ans := fun l H K => bindO (decAq8 l H) fun a => vFq8 a K
theorem Fq8_ok : FuncOk Tryz.prog 161 Fq8 := func_mkD (hint := noHint) (d := 0) (n := 70) mixed tabOk envq8Ok Tryz.func161 (bodySome (by kernel_rfl)) (by decide +kernel) annq8_ok decAq8_ok fnq8_ok fnq8_nat
--@ wal_Wal_home
noncomputable def envq83 : Env := [(161,.func Fq8)]
theorem envq83Ok : EnvOk Tryz.prog envq83 := EnvOk.cons Fq8_ok (EnvOk.nil)
noncomputable def bq83 : Code := Tryz.f97.body.getD .skip
noncomputable def Lq83_n0 : Code := codeAt [1,0] bq83
noncomputable def annLq83_n0 : Ann := .none
theorem annLq83_n0_ok : AnnOk Tryz.prog 37 Lq83_n0 annLq83_n0 := (annOk_none _ _ _)
abbrev Iq83_n0 := (Int) × (Int) × (Int) × (Int) × (Int) × (Int) × (Int) × (Bool) × (Bool) × (Int) × (Int) × (Bool) × (Int) × (Int) × (Int) × (Int) × (List (List UInt8)) × (List (Int × List UInt8)) × (List (Int × List UInt8)) × (List Int) × (List (Int × List UInt8)) × (List (Int × List UInt8))
abbrev Yq83_n0 := (Bool)
def Sq83_n0 : Iq83_n0 → St := fun (t1,o0_3,o0_4,o0_5,o0_6,o0_7,o0_8,o0_9,o0_10,o1_3,o1_5,o1_6,o2_1,o2_2,o3_1,o3_2,o5,o6,o7,o8,o9,o10) => { env := [(0,.ptr 0 0),(1,.int .i64 t1)],stk := [[(0,.ptr 0 0),(1,.ptr 1 0),(2,.ptr 2 0),(3,.ptr 3 0),(4,.ptr 4 0),(6,.map 6),(9,.map 9),(10,.map 10)]],H := [.cells [.ptr 1 0,.ptr 2 0,.ptr 3 0,.int .i64 o0_3,.int .i64 o0_4,.int .i64 o0_5,.int .i64 o0_6,.int .i64 o0_7,.int .i64 o0_8,.bool o0_9,.bool o0_10,.ptr 4 0],.cells [.own 5,.map 6,.own 7,.int .i64 o1_3,.own 8,.int .i64 o1_5,.bool o1_6],.cells [.ptr 1 0,.int .i64 o2_1,.int .i64 o2_2],.cells [.ptr 1 0,.int .i64 o3_1,.int .i64 o3_2],.cells [.map 9,.map 10],.arr .str o5,.mp .i64 .str o6,.arr (.st (.pair (.int .i64) .str)) o7,.arr (.int .i64) o8,.mp .i64 .str o9,.mp .i64 .str o10],blk := 397312 }
def decPq83_n0 (s : St) : Option {x : Iq83_n0 // s = Sq83_n0 x} := match s with
  | { env := [(0,.ptr 0 0),(1,.int .i64 t1)],stk := [[(0,.ptr 0 0),(1,.ptr 1 0),(2,.ptr 2 0),(3,.ptr 3 0),(4,.ptr 4 0),(6,.map 6),(9,.map 9),(10,.map 10)]],H := [.cells [.ptr 1 0,.ptr 2 0,.ptr 3 0,.int .i64 o0_3,.int .i64 o0_4,.int .i64 o0_5,.int .i64 o0_6,.int .i64 o0_7,.int .i64 o0_8,.bool o0_9,.bool o0_10,.ptr 4 0],.cells [.own 5,.map 6,.own 7,.int .i64 o1_3,.own 8,.int .i64 o1_5,.bool o1_6],.cells [.ptr 1 0,.int .i64 o2_1,.int .i64 o2_2],.cells [.ptr 1 0,.int .i64 o3_1,.int .i64 o3_2],.cells [.map 9,.map 10],.arr .str o5,.mp .i64 .str o6,.arr (.st (.pair (.int .i64) .str)) o7,.arr (.int .i64) o8,.mp .i64 .str o9,.mp .i64 .str o10],blk := 397312 } => some ⟨(t1,o0_3,o0_4,o0_5,o0_6,o0_7,o0_8,o0_9,o0_10,o1_3,o1_5,o1_6,o2_1,o2_2,o3_1,o3_2,o5,o6,o7,o8,o9,o10),rfl⟩
  | _ => none
def decq83_n0 (s : St) : Option Iq83_n0 := pk (decPq83_n0 s)
theorem decq83_n0_ok (s : St) (x : Iq83_n0) (h : decq83_n0 s = some x) : s = Sq83_n0 x := pk_ok (o := decPq83_n0 s) h
def outq83_n0 : Iq83_n0 → (Ex → St → Ans) → Yq83_n0 → Ans := fun (t1,o0_3,o0_4,o0_5,o0_6,o0_7,o0_8,o0_9,o0_10,o1_3,o1_5,o1_6,o2_1,o2_2,o3_1,o3_2,o5,o6,o7,o8,o9,o10) K => fun t4_y => K (Ex.norm) { env := [(4,.bool t4_y)],stk := [[(0,.ptr 0 0),(1,.ptr 1 0),(2,.ptr 2 0),(3,.ptr 3 0),(4,.ptr 4 0),(6,.map 6),(9,.map 9),(10,.map 10)]],H := [.cells [.ptr 1 0,.ptr 2 0,.ptr 3 0,.int .i64 o0_3,.int .i64 o0_4,.int .i64 o0_5,.int .i64 o0_6,.int .i64 o0_7,.int .i64 o0_8,.bool o0_9,.bool o0_10,.ptr 4 0],.cells [.own 5,.map 6,.own 7,.int .i64 o1_3,.own 8,.int .i64 o1_5,.bool o1_6],.cells [.ptr 1 0,.int .i64 o2_1,.int .i64 o2_2],.cells [.ptr 1 0,.int .i64 o3_1,.int .i64 o3_2],.cells [.map 9,.map 10],.arr .str o5,.mp .i64 .str o6,.arr (.st (.pair (.int .i64) .str)) o7,.arr (.int .i64) o8,.mp .i64 .str o9,.mp .i64 .str o10],blk := 397312 }
def nodeq83_n0 {β : Type} : Iq83_n0 → (Yq83_n0 → Option β) → Option β := fun (t1,o0_3,o0_4,o0_5,o0_6,o0_7,o0_8,o0_9,o0_10,o1_3,o1_5,o1_6,o2_1,o2_2,o3_1,o3_2,o5,o6,o7,o8,o9,o10) exit => (bif decide (t1 ≥ (0 : Int)) then (bindO (fnDq8 (o1_3,o1_5,o1_6,o5,o6,o7,o8)) fun r => (bif decide (t1 < r) then (bif decide (t1 < o0_3) then (exit (true)) else (exit (decide (IntKind.wrap .i64 (t1 - o0_3) ≥ o0_4)))) else (exit (false)))) else (exit (false)))
def nodeDq83_n0 (i : Iq83_n0) : Option Yq83_n0 := nodeq83_n0 i some
theorem nodeq83_n0_nat (i : Iq83_n0) (k : Yq83_n0 → Ans) : nodeq83_n0 i k = bindO (nodeDq83_n0 i) k := by
  obtain ⟨t1,o0_3,o0_4,o0_5,o0_6,o0_7,o0_8,o0_9,o0_10,o1_3,o1_5,o1_6,o2_1,o2_2,o3_1,o3_2,o5,o6,o7,o8,o9,o10⟩ := i
  simp only [nodeDq83_n0,nodeq83_n0,bindO_cond,bindO_assoc,bindO_none,bindO_pure,bindO_elim,bindO_unP,bindO_empty]
theorem nodeq83_n0_ok (i : Iq83_n0) (K : Ex → St → Ans) : codeI Tryz.tab envq83 noHint (codeD Tryz.tab envq83 noHint 0 64) 70 37 annLq83_n0 Lq83_n0 (weakP 11 (exk [4] [4] []) K) (Sq83_n0 i) = nodeq83_n0 i (outq83_n0 i K) := by kernel_rfl
theorem GNq83_n0_ok : CSum Tryz.prog 37 Lq83_n0 (sumN decq83_n0 nodeDq83_n0 outq83_n0) := csum_node mixed tabOk envq83Ok 11 (exk [4] [4] []) annLq83_n0_ok decq83_n0_ok nodeq83_n0_ok nodeq83_n0_nat
noncomputable def Gq83_n0 : (Ex → St → Ans) → St → Ans := (sumN decq83_n0 nodeDq83_n0 outq83_n0)
theorem Gq83_n0_ok : CSum Tryz.prog 37 Lq83_n0 Gq83_n0 := GNq83_n0_ok
noncomputable def annq83 : Ann := (.seq .none (.seq (.cut 11 [0,1] Gq83_n0) .none))
theorem annq83_ok : AnnOk Tryz.prog 37 bq83 annq83 := ⟨(annOk_none _ _ _),⟨Gq83_n0_ok,(annOk_none _ _ _)⟩⟩
abbrev Aq83 := (Int) × (Int) × (Int) × (Int) × (Int) × (Int) × (Int) × (Bool) × (Bool) × (Int) × (Int) × (Bool) × (Int) × (Int) × (Int) × (Int) × (List (List UInt8)) × (List (Int × List UInt8)) × (List (Int × List UInt8)) × (List Int) × (List (Int × List UInt8)) × (List (Int × List UInt8))
abbrev Yq83 := (Bool)
def fnq83 {β : Type} : Aq83 → (Yq83 → Option β) → Option β := fun (a1,o0_3,o0_4,o0_5,o0_6,o0_7,o0_8,o0_9,o0_10,o1_3,o1_5,o1_6,o2_1,o2_2,o3_1,o3_2,o5,o6,o7,o8,o9,o10) exit => (bindO (nodeDq83_n0 (a1,o0_3,o0_4,o0_5,o0_6,o0_7,o0_8,o0_9,o0_10,o1_3,o1_5,o1_6,o2_1,o2_2,o3_1,o3_2,o5,o6,o7,o8,o9,o10)) fun t4 => (exit (t4)))
def fnDq83 (a : Aq83) : Option Yq83 := fnq83 a some
theorem fnq83_nat (a : Aq83) (k : Yq83 → Ans) : fnq83 a k = bindO (fnDq83 a) k := by
  obtain ⟨a1,o0_3,o0_4,o0_5,o0_6,o0_7,o0_8,o0_9,o0_10,o1_3,o1_5,o1_6,o2_1,o2_2,o3_1,o3_2,o5,o6,o7,o8,o9,o10⟩ := a
  simp only [fnDq83,fnq83,bindO_cond,bindO_assoc,bindO_none,bindO_pure,bindO_elim,bindO_unP,bindO_empty]
def argsq83 : Aq83 → List AV × List AE.Obj := fun (a1,o0_3,o0_4,o0_5,o0_6,o0_7,o0_8,o0_9,o0_10,o1_3,o1_5,o1_6,o2_1,o2_2,o3_1,o3_2,o5,o6,o7,o8,o9,o10) => ([.ptr 0 0,.int .i64 a1],[.cells [.ptr 1 0,.ptr 2 0,.ptr 3 0,.int .i64 o0_3,.int .i64 o0_4,.int .i64 o0_5,.int .i64 o0_6,.int .i64 o0_7,.int .i64 o0_8,.bool o0_9,.bool o0_10,.ptr 4 0],.cells [.own 5,.map 6,.own 7,.int .i64 o1_3,.own 8,.int .i64 o1_5,.bool o1_6],.cells [.ptr 1 0,.int .i64 o2_1,.int .i64 o2_2],.cells [.ptr 1 0,.int .i64 o3_1,.int .i64 o3_2],.cells [.map 9,.map 10],.arr .str o5,.mp .i64 .str o6,.arr (.st (.pair (.int .i64) .str)) o7,.arr (.int .i64) o8,.mp .i64 .str o9,.mp .i64 .str o10])
def decPAq83 (l : List AV) (H : List AE.Obj) : Option {a : Aq83 // (l,H) = argsq83 a} := match l,H with
  | [.ptr 0 0,.int .i64 a1],[.cells [.ptr 1 0,.ptr 2 0,.ptr 3 0,.int .i64 o0_3,.int .i64 o0_4,.int .i64 o0_5,.int .i64 o0_6,.int .i64 o0_7,.int .i64 o0_8,.bool o0_9,.bool o0_10,.ptr 4 0],.cells [.own 5,.map 6,.own 7,.int .i64 o1_3,.own 8,.int .i64 o1_5,.bool o1_6],.cells [.ptr 1 0,.int .i64 o2_1,.int .i64 o2_2],.cells [.ptr 1 0,.int .i64 o3_1,.int .i64 o3_2],.cells [.map 9,.map 10],.arr .str o5,.mp .i64 .str o6,.arr (.st (.pair (.int .i64) .str)) o7,.arr (.int .i64) o8,.mp .i64 .str o9,.mp .i64 .str o10] => some ⟨(a1,o0_3,o0_4,o0_5,o0_6,o0_7,o0_8,o0_9,o0_10,o1_3,o1_5,o1_6,o2_1,o2_2,o3_1,o3_2,o5,o6,o7,o8,o9,o10),rfl⟩
  | _,_ => none
def decAq83 (l : List AV) (H : List AE.Obj) : Option Aq83 := pk (decPAq83 l H)
theorem decAq83_ok (l : List AV) (H : List AE.Obj) (a : Aq83) (h : decAq83 l H = some a) : (l,H) = argsq83 a := pk_ok (o := decPAq83 l H) h
def outq83 : Aq83 → (AV → List AE.Obj → Ans) → Yq83 → Ans := fun (a1,o0_3,o0_4,o0_5,o0_6,o0_7,o0_8,o0_9,o0_10,o1_3,o1_5,o1_6,o2_1,o2_2,o3_1,o3_2,o5,o6,o7,o8,o9,o10) K => fun r_y => K (.bool r_y) [.cells [.ptr 1 0,.ptr 2 0,.ptr 3 0,.int .i64 o0_3,.int .i64 o0_4,.int .i64 o0_5,.int .i64 o0_6,.int .i64 o0_7,.int .i64 o0_8,.bool o0_9,.bool o0_10,.ptr 4 0],.cells [.own 5,.map 6,.own 7,.int .i64 o1_3,.own 8,.int .i64 o1_5,.bool o1_6],.cells [.ptr 1 0,.int .i64 o2_1,.int .i64 o2_2],.cells [.ptr 1 0,.int .i64 o3_1,.int .i64 o3_2],.cells [.map 9,.map 10],.arr .str o5,.mp .i64 .str o6,.arr (.st (.pair (.int .i64) .str)) o7,.arr (.int .i64) o8,.mp .i64 .str o9,.mp .i64 .str o10]
theorem fnq83_ok (a : Aq83) (K : AV → List AE.Obj → Ans) : fnE Tryz.tab envq83 noHint 0 70 97 Tryz.f97.ntmps Tryz.f97.results.toList annq83 bq83 (argsq83 a).1 (argsq83 a).2 K = fnq83 a (outq83 a K) := by kernel_rfl
def vFq83 (a : Aq83) (K : AV → List AE.Obj → Ans) : Ans := bindO (fnDq83 a) fun y => outq83 a K y
def Fq83 : List AV → List AE.Obj → (AV → List AE.Obj → Ans) → Ans := fun l H K => bindO (decAq83 l H) fun a => vFq83 a K
theorem Fq83_ok : FuncOk Tryz.prog 97 Fq83 := func_mkD (hint := noHint) (d := 0) (n := 70) mixed tabOk envq83Ok Tryz.func97 (bodySome (by kernel_rfl)) (by decide +kernel) annq83_ok decAq83_ok fnq83_ok fnq83_nat
--@ shadow_Shadow_string_Loose
noncomputable def envq66 : Env := []
theorem envq66Ok : EnvOk Tryz.prog envq66 := EnvOk.nil
noncomputable def bq66 : Code := Tryz.f98.body.getD .skip
noncomputable def annq66 : Ann := .none
theorem annq66_ok : AnnOk Tryz.prog 10 bq66 annq66 := (annOk_none _ _ _)
abbrev Aq66 := (List (Int × List UInt8)) × (List (Int × List UInt8))
abbrev Yq66 := (Int)
def fnq66 {β : Type} : Aq66 → (Yq66 → Option β) → Option β := fun (o1,o2) exit => (exit ((↑(List.length o2) : Int)))
def fnDq66 (a : Aq66) : Option Yq66 := fnq66 a some
theorem fnq66_nat (a : Aq66) (k : Yq66 → Ans) : fnq66 a k = bindO (fnDq66 a) k := by
  obtain ⟨o1,o2⟩ := a
  simp only [fnDq66,fnq66,bindO_cond,bindO_assoc,bindO_none,bindO_pure,bindO_elim,bindO_unP,bindO_empty]
def argsq66 : Aq66 → List AV × List AE.Obj := fun (o1,o2) => ([.ptr 0 0],[.cells [.map 1,.map 2],.mp .i64 .str o1,.mp .i64 .str o2])
def decPAq66 (l : List AV) (H : List AE.Obj) : Option {a : Aq66 // (l,H) = argsq66 a} := match l,H with
  | [.ptr 0 0],[.cells [.map 1,.map 2],.mp .i64 .str o1,.mp .i64 .str o2] => some ⟨(o1,o2),rfl⟩
  | _,_ => none
def decAq66 (l : List AV) (H : List AE.Obj) : Option Aq66 := pk (decPAq66 l H)
theorem decAq66_ok (l : List AV) (H : List AE.Obj) (a : Aq66) (h : decAq66 l H = some a) : (l,H) = argsq66 a := pk_ok (o := decPAq66 l H) h
def outq66 : Aq66 → (AV → List AE.Obj → Ans) → Yq66 → Ans := fun (o1,o2) K => fun r_y => K (.int .i64 r_y) [.cells [.map 1,.map 2],.mp .i64 .str o1,.mp .i64 .str o2]
theorem fnq66_ok (a : Aq66) (K : AV → List AE.Obj → Ans) : fnE Tryz.tab envq66 noHint 0 70 98 Tryz.f98.ntmps Tryz.f98.results.toList annq66 bq66 (argsq66 a).1 (argsq66 a).2 K = fnq66 a (outq66 a K) := by kernel_rfl
def vFq66 (a : Aq66) (K : AV → List AE.Obj → Ans) : Ans := bindO (fnDq66 a) fun y => outq66 a K y
def Fq66 : List AV → List AE.Obj → (AV → List AE.Obj → Ans) → Ans := fun l H K => bindO (decAq66 l H) fun a => vFq66 a K
theorem Fq66_ok : FuncOk Tryz.prog 98 Fq66 := func_mkD (hint := noHint) (d := 0) (n := 70) mixed tabOk envq66Ok Tryz.func98 (bodySome (by kernel_rfl)) (by decide +kernel) annq66_ok decAq66_ok fnq66_ok fnq66_nat
--@ shadow_layer_string_each
noncomputable def envq69 : Env := []
theorem envq69Ok : EnvOk Tryz.prog envq69 := EnvOk.nil
noncomputable def bq69 : Code := Tryz.f163.body.getD .skip
noncomputable def annq69 : Ann := .none
theorem annq69_ok : AnnOk Tryz.prog 4 bq69 annq69 := (annOk_none _ _ _)
abbrev Aq69 := (List (Int × List UInt8))
abbrev Yq69 := Unit
def fnq69 {β : Type} : Aq69 → (Yq69 → Option β) → Option β := fun o0 exit => (exit ())
def fnDq69 (a : Aq69) : Option Yq69 := fnq69 a some
theorem fnq69_nat (a : Aq69) (k : Yq69 → Ans) : fnq69 a k = bindO (fnDq69 a) k := by
  obtain z := a
  simp only [fnDq69,fnq69,bindO_cond,bindO_assoc,bindO_none,bindO_pure,bindO_elim,bindO_unP,bindO_empty]
def argsq69 : Aq69 → List AV × List AE.Obj := fun o0 => ([.map 0],[.mp .i64 .str o0])
def decPAq69 (l : List AV) (H : List AE.Obj) : Option {a : Aq69 // (l,H) = argsq69 a} := match l,H with
  | [.map 0],[.mp .i64 .str o0] => some ⟨(o0),rfl⟩
  | _,_ => none
def decAq69 (l : List AV) (H : List AE.Obj) : Option Aq69 := pk (decPAq69 l H)
theorem decAq69_ok (l : List AV) (H : List AE.Obj) (a : Aq69) (h : decAq69 l H = some a) : (l,H) = argsq69 a := pk_ok (o := decPAq69 l H) h
def outq69 : Aq69 → (AV → List AE.Obj → Ans) → Yq69 → Ans := fun o0 K => fun _ => K (.fn (Fn.func 205) [] [.ptr 1 0]) [.mp .i64 .str o0,.cells [.map 0]]
theorem fnq69_ok (a : Aq69) (K : AV → List AE.Obj → Ans) : fnE Tryz.tab envq69 noHint 0 70 163 Tryz.f163.ntmps Tryz.f163.results.toList annq69 bq69 (argsq69 a).1 (argsq69 a).2 K = fnq69 a (outq69 a K) := by kernel_rfl
def vFq69 (a : Aq69) (K : AV → List AE.Obj → Ans) : Ans := bindO (fnDq69 a) fun y => outq69 a K y
def Fq69 : List AV → List AE.Obj → (AV → List AE.Obj → Ans) → Ans := fun l H K => bindO (decAq69 l H) fun a => vFq69 a K
theorem Fq69_ok : FuncOk Tryz.prog 163 Fq69 := func_mkD (hint := noHint) (d := 0) (n := 70) mixed tabOk envq69Ok Tryz.func163 (bodySome (by kernel_rfl)) (by decide +kernel) annq69_ok decAq69_ok fnq69_ok fnq69_nat
--@ shadow_Shadow_string_Fresh
noncomputable def envq62 : Env := [(163,.func Fq69)]
theorem envq62Ok : EnvOk Tryz.prog envq62 := EnvOk.cons Fq69_ok (EnvOk.nil)
noncomputable def bq62 : Code := Tryz.f101.body.getD .skip
noncomputable def annq62 : Ann := .none
theorem annq62_ok : AnnOk Tryz.prog 11 bq62 annq62 := (annOk_none _ _ _)
abbrev Aq62 := (List (Int × List UInt8)) × (List (Int × List UInt8))
abbrev Yq62 := Unit
def fnq62 {β : Type} : Aq62 → (Yq62 → Option β) → Option β := fun (o1,o2) exit => (bindO (fnDq69 (o2)) fun _ => (exit ()))
def fnDq62 (a : Aq62) : Option Yq62 := fnq62 a some
theorem fnq62_nat (a : Aq62) (k : Yq62 → Ans) : fnq62 a k = bindO (fnDq62 a) k := by
  obtain ⟨o1,o2⟩ := a
  simp only [fnDq62,fnq62,bindO_cond,bindO_assoc,bindO_none,bindO_pure,bindO_elim,bindO_unP,bindO_empty]
def argsq62 : Aq62 → List AV × List AE.Obj := fun (o1,o2) => ([.ptr 0 0],[.cells [.map 1,.map 2],.mp .i64 .str o1,.mp .i64 .str o2])
def decPAq62 (l : List AV) (H : List AE.Obj) : Option {a : Aq62 // (l,H) = argsq62 a} := match l,H with
  | [.ptr 0 0],[.cells [.map 1,.map 2],.mp .i64 .str o1,.mp .i64 .str o2] => some ⟨(o1,o2),rfl⟩
  | _,_ => none
def decAq62 (l : List AV) (H : List AE.Obj) : Option Aq62 := pk (decPAq62 l H)
theorem decAq62_ok (l : List AV) (H : List AE.Obj) (a : Aq62) (h : decAq62 l H = some a) : (l,H) = argsq62 a := pk_ok (o := decPAq62 l H) h
def outq62 : Aq62 → (AV → List AE.Obj → Ans) → Yq62 → Ans := fun (o1,o2) K => fun _ => K (.fn (Fn.func 205) [] [.ptr 3 0]) [.cells [.map 1,.map 2],.mp .i64 .str o1,.mp .i64 .str o2,.cells [.map 2]]
theorem fnq62_ok (a : Aq62) (K : AV → List AE.Obj → Ans) : fnE Tryz.tab envq62 noHint 0 70 101 Tryz.f101.ntmps Tryz.f101.results.toList annq62 bq62 (argsq62 a).1 (argsq62 a).2 K = fnq62 a (outq62 a K) := by kernel_rfl
def vFq62 (a : Aq62) (K : AV → List AE.Obj → Ans) : Ans := bindO (fnDq62 a) fun y => outq62 a K y
def Fq62 : List AV → List AE.Obj → (AV → List AE.Obj → Ans) → Ans := fun l H K => bindO (decAq62 l H) fun a => vFq62 a K
theorem Fq62_ok : FuncOk Tryz.prog 101 Fq62 := func_mkD (hint := noHint) (d := 0) (n := 70) mixed tabOk envq62Ok Tryz.func101 (bodySome (by kernel_rfl)) (by decide +kernel) annq62_ok decAq62_ok fnq62_ok fnq62_nat
--@ wal_Wal_staged
noncomputable def envq84 : Env := [(101,.func Fq62),(100205,(.iter (eachBegin .str) (eachNext .str)))]
theorem envq84Ok : EnvOk Tryz.prog envq84 := EnvOk.cons Fq62_ok (EnvOk.cons iter205_spec (EnvOk.nil))
noncomputable def bq84 : Code := Tryz.f99.body.getD .skip
noncomputable def Lq84_n0 : Code := codeAt [1,0,1,0] bq84
theorem Lq84_n0_eq : Lq84_n0 = .rangeFunc (rfG Lq84_n0) (rfPs Lq84_n0) (rfAs Lq84_n0) (rfC Lq84_n0) := by kernel_rfl
noncomputable def annLq84_n0 : Ann := .at 11 [3,4,10,16] (.loop .none)
theorem annLq84_n0_ok : cutP Tryz.prog 16 (rfC Lq84_n0) annLq84_n0.fst (AnnOk Tryz.prog 16 (rfC Lq84_n0) annLq84_n0.fst) := (annOk_none _ _ _)
abbrev Iq84_n0 := (Int) × (Int) × (Int) × (Int) × (Int) × (Int) × (Bool) × (Bool) × (Int) × (Int) × (Bool) × (Int) × (Int) × (Int) × (Int) × (List (List UInt8)) × (List (Int × List UInt8)) × (List (Int × List UInt8)) × (List Int) × (List (Int × List UInt8)) × (List (Int × List UInt8)) × (Int)
abbrev Yq84_n0 := (Unit) ⊕ (Unit)
abbrev Vq84_n0 := (List Int)
def Sq84_n0 : Iq84_n0 → Vq84_n0 → St := fun (o0_3,o0_4,o0_5,o0_6,o0_7,o0_8,o0_9,o0_10,o1_3,o1_5,o1_6,o2_1,o2_2,o3_1,o3_2,o5,o6,o7,o8,o9,o10,o11_0) t16 => { env := [(3,.ptr 11 0),(4,.ptr 12 0),(10,.fn (Fn.func 205) [] [.ptr 13 0]),(16,AV.gh t16)],stk := [[(0,.ptr 0 0),(1,.ptr 1 0),(2,.ptr 2 0),(3,.ptr 3 0),(4,.ptr 4 0),(6,.map 6),(9,.map 9),(10,.map 10)]],H := [.cells [.ptr 1 0,.ptr 2 0,.ptr 3 0,.int .i64 o0_3,.int .i64 o0_4,.int .i64 o0_5,.int .i64 o0_6,.int .i64 o0_7,.int .i64 o0_8,.bool o0_9,.bool o0_10,.ptr 4 0],.cells [.own 5,.map 6,.own 7,.int .i64 o1_3,.own 8,.int .i64 o1_5,.bool o1_6],.cells [.ptr 1 0,.int .i64 o2_1,.int .i64 o2_2],.cells [.ptr 1 0,.int .i64 o3_1,.int .i64 o3_2],.cells [.map 9,.map 10],.arr .str o5,.mp .i64 .str o6,.arr (.st (.pair (.int .i64) .str)) o7,.arr (.int .i64) o8,.mp .i64 .str o9,.mp .i64 .str o10,.cells [.int .i64 o11_0],.cells [.bool (false)],.cells [.map 10]],blk := 405504 }
def decPq84_n0 (s : St) : Option {x : Iq84_n0 × Vq84_n0 // s = Sq84_n0 x.1 x.2} := match s with
  | { env := [(3,.ptr 11 0),(4,.ptr 12 0),(10,.fn (Fn.func 205) [] [.ptr 13 0]),(16,AV.gh t16)],stk := [[(0,.ptr 0 0),(1,.ptr 1 0),(2,.ptr 2 0),(3,.ptr 3 0),(4,.ptr 4 0),(6,.map 6),(9,.map 9),(10,.map 10)]],H := [.cells [.ptr 1 0,.ptr 2 0,.ptr 3 0,.int .i64 o0_3,.int .i64 o0_4,.int .i64 o0_5,.int .i64 o0_6,.int .i64 o0_7,.int .i64 o0_8,.bool o0_9,.bool o0_10,.ptr 4 0],.cells [.own 5,.map 6,.own 7,.int .i64 o1_3,.own 8,.int .i64 o1_5,.bool o1_6],.cells [.ptr 1 0,.int .i64 o2_1,.int .i64 o2_2],.cells [.ptr 1 0,.int .i64 o3_1,.int .i64 o3_2],.cells [.map 9,.map 10],.arr .str o5,.mp .i64 .str o6,.arr (.st (.pair (.int .i64) .str)) o7,.arr (.int .i64) o8,.mp .i64 .str o9,.mp .i64 .str o10,.cells [.int .i64 o11_0],.cells [.bool r23],.cells [.map 10]],blk := 405504 } => if h23 : r23 = false then some ⟨((o0_3,o0_4,o0_5,o0_6,o0_7,o0_8,o0_9,o0_10,o1_3,o1_5,o1_6,o2_1,o2_2,o3_1,o3_2,o5,o6,o7,o8,o9,o10,o11_0),t16),by subst h23; rfl⟩ else none
  | _ => none
def decq84_n0 (s : St) : Option (Iq84_n0 × Vq84_n0) := pk (decPq84_n0 s)
theorem decq84_n0_ok (s : St) (x : Iq84_n0 × Vq84_n0) (h : decq84_n0 s = some x) : s = Sq84_n0 x.1 x.2 := pk_ok (o := decPq84_n0 s) h
def outq84_n0 : Iq84_n0 → (Ex → St → Ans) → Yq84_n0 → Ans := fun (o0_3,o0_4,o0_5,o0_6,o0_7,o0_8,o0_9,o0_10,o1_3,o1_5,o1_6,o2_1,o2_2,o3_1,o3_2,o5,o6,o7,o8,o9,o10,o11_0) K => (Sum.elim (fun _ => K (Ex.norm) { env := [(4,.ptr 11 0)],stk := [[(0,.ptr 0 0),(1,.ptr 1 0),(2,.ptr 2 0),(3,.ptr 3 0),(4,.ptr 4 0),(6,.map 6),(9,.map 9),(10,.map 10)]],H := [.cells [.ptr 1 0,.ptr 2 0,.ptr 3 0,.int .i64 o0_3,.int .i64 o0_4,.int .i64 o0_5,.int .i64 o0_6,.int .i64 o0_7,.int .i64 o0_8,.bool o0_9,.bool o0_10,.ptr 4 0],.cells [.own 5,.map 6,.own 7,.int .i64 o1_3,.own 8,.int .i64 o1_5,.bool o1_6],.cells [.ptr 1 0,.int .i64 o2_1,.int .i64 o2_2],.cells [.ptr 1 0,.int .i64 o3_1,.int .i64 o3_2],.cells [.map 9,.map 10],.arr .str o5,.mp .i64 .str o6,.arr (.st (.pair (.int .i64) .str)) o7,.arr (.int .i64) o8,.mp .i64 .str o9,.mp .i64 .str o10,.cells [.bool (false)]],blk := 405504 }) (fun _ => K (Ex.ret) { env := [(4,.ptr 11 0)],stk := [[(0,.ptr 0 0),(1,.ptr 1 0),(2,.ptr 2 0),(3,.ptr 3 0),(4,.ptr 4 0),(6,.map 6),(9,.map 9),(10,.map 10)]],H := [.cells [.ptr 1 0,.ptr 2 0,.ptr 3 0,.int .i64 o0_3,.int .i64 o0_4,.int .i64 o0_5,.int .i64 o0_6,.int .i64 o0_7,.int .i64 o0_8,.bool o0_9,.bool o0_10,.ptr 4 0],.cells [.own 5,.map 6,.own 7,.int .i64 o1_3,.own 8,.int .i64 o1_5,.bool o1_6],.cells [.ptr 1 0,.int .i64 o2_1,.int .i64 o2_2],.cells [.ptr 1 0,.int .i64 o3_1,.int .i64 o3_2],.cells [.map 9,.map 10],.arr .str o5,.mp .i64 .str o6,.arr (.st (.pair (.int .i64) .str)) o7,.arr (.int .i64) o8,.mp .i64 .str o9,.mp .i64 .str o10,.cells [.bool (true)]],blk := 405504 }))
def stepq84_n0 {β : Type} : Iq84_n0 → Vq84_n0 → (Vq84_n0 → Option β) → (Yq84_n0 → Option β) → Option β := fun (o0_3,o0_4,o0_5,o0_6,o0_7,o0_8,o0_9,o0_10,o1_3,o1_5,o1_6,o2_1,o2_2,o3_1,o3_2,o5,o6,o7,o8,o9,o10,o11_0) t16 next exit => (bif isNil t16 then (exit (Sum.inl ())) else (bindO (List.head? t16) fun x => (bif x == o11_0 then (exit (Sum.inr ())) else (next (List.tail t16)))))
def stepDq84_n0 (i : Iq84_n0) (v : Vq84_n0) : Option (Vq84_n0 ⊕ Yq84_n0) := stepq84_n0 i v (fun v => some (.inl v)) (fun y => some (.inr y))
theorem stepq84_n0_nat (i : Iq84_n0) (v : Vq84_n0) (next : Vq84_n0 → Ans) (exit : Yq84_n0 → Ans) : stepq84_n0 i v next exit = bindO (stepDq84_n0 i v) (Sum.elim next exit) := by
  obtain ⟨o0_3,o0_4,o0_5,o0_6,o0_7,o0_8,o0_9,o0_10,o1_3,o1_5,o1_6,o2_1,o2_2,o3_1,o3_2,o5,o6,o7,o8,o9,o10,o11_0⟩ := i
  obtain z := v
  simp only [stepDq84_n0,stepq84_n0,bindO_cond,bindO_assoc,bindO_none,bindO_pure,bindO_elim,bindO_unP,bindO_empty,Sum.elim_inl,Sum.elim_inr]
theorem stepq84_n0_ok (n : Nat) (i : Iq84_n0) (v : Vq84_n0) (K : Ex → St → Ans) : codeI Tryz.tab envq84 noHint (codeD Tryz.tab envq84 noHint 0 64) (n+1) 16 (.rnd annLq84_n0) (.rangeFunc (rfG Lq84_n0) (rfPs Lq84_n0) (rfAs Lq84_n0) (rfC Lq84_n0)) (weakP 11 (exk [4] [4] []) K) (Sq84_n0 i v) = stepq84_n0 i v (fun v' => codeI Tryz.tab envq84 noHint (codeD Tryz.tab envq84 noHint 0 64) n 16 (.rnd annLq84_n0) (.rangeFunc (rfG Lq84_n0) (rfPs Lq84_n0) (rfAs Lq84_n0) (rfC Lq84_n0)) (weakP 11 (exk [4] [4] []) K) (Sq84_n0 i v')) (fun y => outq84_n0 i K y) := by kernel_rfl
theorem GNq84_n0_ok : RH Tryz.tab envq84 16 annLq84_n0 (.rangeFunc (rfG Lq84_n0) (rfPs Lq84_n0) (rfAs Lq84_n0) (rfC Lq84_n0)) 11 (exk [4] [4] []) (sumL decq84_n0 stepDq84_n0 outq84_n0) := rh_loop decq84_n0_ok stepq84_n0_ok stepq84_n0_nat
noncomputable def Gq84_n0 : (Ex → St → Ans) → St → Ans := startG envq84 16 11 [3,4,10,16] (rfG Lq84_n0) (sumL decq84_n0 stepDq84_n0 outq84_n0)
theorem Gq84_n0_ok : CSum Tryz.prog 16 Lq84_n0 Gq84_n0 := csum_rh mixed tabOk envq84Ok [3,4,10,16] Lq84_n0_eq annLq84_n0_ok GNq84_n0_ok
noncomputable def annq84 : Ann := (.seq .none (.seq (.seq .none (.block (.cut 11 [3,4,10] Gq84_n0))) .none))
theorem annq84_ok : AnnOk Tryz.prog 16 bq84 annq84 := ⟨(annOk_none _ _ _),⟨⟨(annOk_none _ _ _),Gq84_n0_ok⟩,(annOk_none _ _ _)⟩⟩
abbrev Aq84 := (Int) × (Int) × (Int) × (Int) × (Int) × (Int) × (Int) × (Bool) × (Bool) × (Int) × (Int) × (Bool) × (Int) × (Int) × (Int) × (Int) × (List (List UInt8)) × (List (Int × List UInt8)) × (List (Int × List UInt8)) × (List Int) × (List (Int × List UInt8)) × (List (Int × List UInt8))
abbrev Yq84 := (Bool)
def fnq84 {β : Type} : Aq84 → (Yq84 → Option β) → Option β := fun (a1,o0_3,o0_4,o0_5,o0_6,o0_7,o0_8,o0_9,o0_10,o1_3,o1_5,o1_6,o2_1,o2_2,o3_1,o3_2,o5,o6,o7,o8,o9,o10) exit => (bindO (fnDq62 (o9,o10)) fun _ => (bif Nat.ble (List.length o10) (1000000 : Nat) then (bindO (loopD (stepDq84_n0 (o0_3,o0_4,o0_5,o0_6,o0_7,o0_8,o0_9,o0_10,o1_3,o1_5,o1_6,o2_1,o2_2,o3_1,o3_2,o5,o6,o7,o8,o9,o10,a1)) FUEL (keysOf o10)) (Sum.elim (fun _ => (exit (false))) (fun _ => (exit (true))))) else none))
def fnDq84 (a : Aq84) : Option Yq84 := fnq84 a some
theorem fnq84_nat (a : Aq84) (k : Yq84 → Ans) : fnq84 a k = bindO (fnDq84 a) k := by
  obtain ⟨a1,o0_3,o0_4,o0_5,o0_6,o0_7,o0_8,o0_9,o0_10,o1_3,o1_5,o1_6,o2_1,o2_2,o3_1,o3_2,o5,o6,o7,o8,o9,o10⟩ := a
  simp only [fnDq84,fnq84,bindO_cond,bindO_assoc,bindO_none,bindO_pure,bindO_elim,bindO_unP,bindO_empty]
def argsq84 : Aq84 → List AV × List AE.Obj := fun (a1,o0_3,o0_4,o0_5,o0_6,o0_7,o0_8,o0_9,o0_10,o1_3,o1_5,o1_6,o2_1,o2_2,o3_1,o3_2,o5,o6,o7,o8,o9,o10) => ([.ptr 0 0,.int .i64 a1],[.cells [.ptr 1 0,.ptr 2 0,.ptr 3 0,.int .i64 o0_3,.int .i64 o0_4,.int .i64 o0_5,.int .i64 o0_6,.int .i64 o0_7,.int .i64 o0_8,.bool o0_9,.bool o0_10,.ptr 4 0],.cells [.own 5,.map 6,.own 7,.int .i64 o1_3,.own 8,.int .i64 o1_5,.bool o1_6],.cells [.ptr 1 0,.int .i64 o2_1,.int .i64 o2_2],.cells [.ptr 1 0,.int .i64 o3_1,.int .i64 o3_2],.cells [.map 9,.map 10],.arr .str o5,.mp .i64 .str o6,.arr (.st (.pair (.int .i64) .str)) o7,.arr (.int .i64) o8,.mp .i64 .str o9,.mp .i64 .str o10])
def decPAq84 (l : List AV) (H : List AE.Obj) : Option {a : Aq84 // (l,H) = argsq84 a} := match l,H with
  | [.ptr 0 0,.int .i64 a1],[.cells [.ptr 1 0,.ptr 2 0,.ptr 3 0,.int .i64 o0_3,.int .i64 o0_4,.int .i64 o0_5,.int .i64 o0_6,.int .i64 o0_7,.int .i64 o0_8,.bool o0_9,.bool o0_10,.ptr 4 0],.cells [.own 5,.map 6,.own 7,.int .i64 o1_3,.own 8,.int .i64 o1_5,.bool o1_6],.cells [.ptr 1 0,.int .i64 o2_1,.int .i64 o2_2],.cells [.ptr 1 0,.int .i64 o3_1,.int .i64 o3_2],.cells [.map 9,.map 10],.arr .str o5,.mp .i64 .str o6,.arr (.st (.pair (.int .i64) .str)) o7,.arr (.int .i64) o8,.mp .i64 .str o9,.mp .i64 .str o10] => some ⟨(a1,o0_3,o0_4,o0_5,o0_6,o0_7,o0_8,o0_9,o0_10,o1_3,o1_5,o1_6,o2_1,o2_2,o3_1,o3_2,o5,o6,o7,o8,o9,o10),rfl⟩
  | _,_ => none
def decAq84 (l : List AV) (H : List AE.Obj) : Option Aq84 := pk (decPAq84 l H)
theorem decAq84_ok (l : List AV) (H : List AE.Obj) (a : Aq84) (h : decAq84 l H = some a) : (l,H) = argsq84 a := pk_ok (o := decPAq84 l H) h
def outq84 : Aq84 → (AV → List AE.Obj → Ans) → Yq84 → Ans := fun (a1,o0_3,o0_4,o0_5,o0_6,o0_7,o0_8,o0_9,o0_10,o1_3,o1_5,o1_6,o2_1,o2_2,o3_1,o3_2,o5,o6,o7,o8,o9,o10) K => fun r_y => K (.bool r_y) [.cells [.ptr 1 0,.ptr 2 0,.ptr 3 0,.int .i64 o0_3,.int .i64 o0_4,.int .i64 o0_5,.int .i64 o0_6,.int .i64 o0_7,.int .i64 o0_8,.bool o0_9,.bool o0_10,.ptr 4 0],.cells [.own 5,.map 6,.own 7,.int .i64 o1_3,.own 8,.int .i64 o1_5,.bool o1_6],.cells [.ptr 1 0,.int .i64 o2_1,.int .i64 o2_2],.cells [.ptr 1 0,.int .i64 o3_1,.int .i64 o3_2],.cells [.map 9,.map 10],.arr .str o5,.mp .i64 .str o6,.arr (.st (.pair (.int .i64) .str)) o7,.arr (.int .i64) o8,.mp .i64 .str o9,.mp .i64 .str o10]
theorem fnq84_ok (a : Aq84) (K : AV → List AE.Obj → Ans) : fnE Tryz.tab envq84 noHint 0 70 99 Tryz.f99.ntmps Tryz.f99.results.toList annq84 bq84 (argsq84 a).1 (argsq84 a).2 K = fnq84 a (outq84 a K) := by kernel_rfl
def vFq84 (a : Aq84) (K : AV → List AE.Obj → Ans) : Ans := bindO (fnDq84 a) fun y => outq84 a K y
def Fq84 : List AV → List AE.Obj → (AV → List AE.Obj → Ans) → Ans := fun l H K => bindO (decAq84 l H) fun a => vFq84 a K
theorem Fq84_ok : FuncOk Tryz.prog 99 Fq84 := func_mkD (hint := noHint) (d := 0) (n := 70) mixed tabOk envq84Ok Tryz.func99 (bodySome (by kernel_rfl)) (by decide +kernel) annq84_ok decAq84_ok fnq84_ok fnq84_nat
--@ shadow_Shadow_string_made
noncomputable def envq68 : Env := []
theorem envq68Ok : EnvOk Tryz.prog envq68 := EnvOk.nil
noncomputable def bq68 : Code := Tryz.f162.body.getD .skip
noncomputable def Lq68_n0 : Code := codeAt [0,1] bq68
noncomputable def annLq68_n0 : Ann := .none
theorem annLq68_n0_ok : AnnOk Tryz.prog 20 Lq68_n0 annLq68_n0 := (annOk_none _ _ _)
abbrev Iq68_n0 := (List (Int × List UInt8)) × (List (Int × List UInt8))
abbrev Yq68_n0 := Unit
def Sq68_n0 : Iq68_n0 → St := fun (o1,o2) => { env := [(0,.ptr 0 0),(6,.bool (false))],stk := [[(0,.ptr 0 0),(1,.map 1),(2,.map 2)]],H := [.cells [.map 1,.map 2],.mp .i64 .str o1,.mp .i64 .str o2],blk := 663552 }
def decPq68_n0 (s : St) : Option {x : Iq68_n0 // s = Sq68_n0 x} := match s with
  | { env := [(0,.ptr 0 0),(6,.bool r0)],stk := [[(0,.ptr 0 0),(1,.map 1),(2,.map 2)]],H := [.cells [.map 1,.map 2],.mp .i64 .str o1,.mp .i64 .str o2],blk := 663552 } => if h0 : r0 = false then some ⟨(o1,o2),by subst h0; rfl⟩ else none
  | _ => none
def decq68_n0 (s : St) : Option Iq68_n0 := pk (decPq68_n0 s)
theorem decq68_n0_ok (s : St) (x : Iq68_n0) (h : decq68_n0 s = some x) : s = Sq68_n0 x := pk_ok (o := decPq68_n0 s) h
def outq68_n0 : Iq68_n0 → (Ex → St → Ans) → Yq68_n0 → Ans := fun (o1,o2) K => fun _ => K (Ex.norm) { env := [(0,.ptr 0 0)],stk := [[(0,.ptr 0 0),(1,.map 1),(2,.map 2)]],H := [.cells [.map 1,.map 2],.mp .i64 .str o1,.mp .i64 .str o2],blk := 663552 }
def nodeq68_n0 {β : Type} : Iq68_n0 → (Yq68_n0 → Option β) → Option β := fun (o1,o2) exit => (exit ())
def nodeDq68_n0 (i : Iq68_n0) : Option Yq68_n0 := nodeq68_n0 i some
theorem nodeq68_n0_nat (i : Iq68_n0) (k : Yq68_n0 → Ans) : nodeq68_n0 i k = bindO (nodeDq68_n0 i) k := by
  obtain ⟨o1,o2⟩ := i
  simp only [nodeDq68_n0,nodeq68_n0,bindO_cond,bindO_assoc,bindO_none,bindO_pure,bindO_elim,bindO_unP,bindO_empty]
theorem nodeq68_n0_ok (i : Iq68_n0) (K : Ex → St → Ans) : codeI Tryz.tab envq68 noHint (codeD Tryz.tab envq68 noHint 0 64) 70 20 annLq68_n0 Lq68_n0 (weakP 3 (exk [0] [] []) K) (Sq68_n0 i) = nodeq68_n0 i (outq68_n0 i K) := by kernel_rfl
theorem GNq68_n0_ok : CSum Tryz.prog 20 Lq68_n0 (sumN decq68_n0 nodeDq68_n0 outq68_n0) := csum_node mixed tabOk envq68Ok 3 (exk [0] [] []) annLq68_n0_ok decq68_n0_ok nodeq68_n0_ok nodeq68_n0_nat
noncomputable def Gq68_n0 : (Ex → St → Ans) → St → Ans := (sumN decq68_n0 nodeDq68_n0 outq68_n0)
theorem Gq68_n0_ok : CSum Tryz.prog 20 Lq68_n0 Gq68_n0 := GNq68_n0_ok
noncomputable def annq68 : Ann := (.seq (.seq .none (.cut 3 [0,6] Gq68_n0)) .none)
theorem annq68_ok : AnnOk Tryz.prog 20 bq68 annq68 := ⟨⟨(annOk_none _ _ _),Gq68_n0_ok⟩,(annOk_none _ _ _)⟩
abbrev Aq68 := (List (Int × List UInt8)) × (List (Int × List UInt8))
abbrev Yq68 := Unit
def fnq68 {β : Type} : Aq68 → (Yq68 → Option β) → Option β := fun (o1,o2) exit => (bindO (nodeDq68_n0 (o1,o2)) fun _ => (exit ()))
def fnDq68 (a : Aq68) : Option Yq68 := fnq68 a some
theorem fnq68_nat (a : Aq68) (k : Yq68 → Ans) : fnq68 a k = bindO (fnDq68 a) k := by
  obtain ⟨o1,o2⟩ := a
  simp only [fnDq68,fnq68,bindO_cond,bindO_assoc,bindO_none,bindO_pure,bindO_elim,bindO_unP,bindO_empty]
def argsq68 : Aq68 → List AV × List AE.Obj := fun (o1,o2) => ([.ptr 0 0],[.cells [.map 1,.map 2],.mp .i64 .str o1,.mp .i64 .str o2])
def decPAq68 (l : List AV) (H : List AE.Obj) : Option {a : Aq68 // (l,H) = argsq68 a} := match l,H with
  | [.ptr 0 0],[.cells [.map 1,.map 2],.mp .i64 .str o1,.mp .i64 .str o2] => some ⟨(o1,o2),rfl⟩
  | _,_ => none
def decAq68 (l : List AV) (H : List AE.Obj) : Option Aq68 := pk (decPAq68 l H)
theorem decAq68_ok (l : List AV) (H : List AE.Obj) (a : Aq68) (h : decAq68 l H = some a) : (l,H) = argsq68 a := pk_ok (o := decPAq68 l H) h
def outq68 : Aq68 → (AV → List AE.Obj → Ans) → Yq68 → Ans := fun (o1,o2) K => fun _ => K (.tup []) [.cells [.map 1,.map 2],.mp .i64 .str o1,.mp .i64 .str o2]
theorem fnq68_ok (a : Aq68) (K : AV → List AE.Obj → Ans) : fnE Tryz.tab envq68 noHint 0 70 162 Tryz.f162.ntmps Tryz.f162.results.toList annq68 bq68 (argsq68 a).1 (argsq68 a).2 K = fnq68 a (outq68 a K) := by kernel_rfl
def vFq68 (a : Aq68) (K : AV → List AE.Obj → Ans) : Ans := bindO (fnDq68 a) fun y => outq68 a K y
def Fq68 : List AV → List AE.Obj → (AV → List AE.Obj → Ans) → Ans := fun l H K => bindO (decAq68 l H) fun a => vFq68 a K
theorem Fq68_ok : FuncOk Tryz.prog 162 Fq68 := func_mkD (hint := noHint) (d := 0) (n := 70) mixed tabOk envq68Ok Tryz.func162 (bodySome (by kernel_rfl)) (by decide +kernel) annq68_ok decAq68_ok fnq68_ok fnq68_nat
--@ shadow_Shadow_string_Put
noncomputable def envq67 : Env := [(162,.func Fq68)]
theorem envq67Ok : EnvOk Tryz.prog envq67 := EnvOk.cons Fq68_ok (EnvOk.nil)
noncomputable def bq67 : Code := Tryz.f100.body.getD .skip
noncomputable def annq67 : Ann := .none
theorem annq67_ok : AnnOk Tryz.prog 16 bq67 annq67 := (annOk_none _ _ _)
abbrev Aq67 := (Int) × (List UInt8) × (List (Int × List UInt8)) × (List (Int × List UInt8))
abbrev Yq67 := (List (Int × List UInt8))
def fnq67 {β : Type} : Aq67 → (Yq67 → Option β) → Option β := fun (a1,a2,o1,o2) exit => (bindO (fnDq68 (o1,o2)) fun _ => (exit (mput a1 a2 o2)))
def fnDq67 (a : Aq67) : Option Yq67 := fnq67 a some
theorem fnq67_nat (a : Aq67) (k : Yq67 → Ans) : fnq67 a k = bindO (fnDq67 a) k := by
  obtain ⟨a1,a2,o1,o2⟩ := a
  simp only [fnDq67,fnq67,bindO_cond,bindO_assoc,bindO_none,bindO_pure,bindO_elim,bindO_unP,bindO_empty]
def argsq67 : Aq67 → List AV × List AE.Obj := fun (a1,a2,o1,o2) => ([.ptr 0 0,.int .i64 a1,.str a2],[.cells [.map 1,.map 2],.mp .i64 .str o1,.mp .i64 .str o2])
def decPAq67 (l : List AV) (H : List AE.Obj) : Option {a : Aq67 // (l,H) = argsq67 a} := match l,H with
  | [.ptr 0 0,.int .i64 a1,.str a2],[.cells [.map 1,.map 2],.mp .i64 .str o1,.mp .i64 .str o2] => some ⟨(a1,a2,o1,o2),rfl⟩
  | _,_ => none
def decAq67 (l : List AV) (H : List AE.Obj) : Option Aq67 := pk (decPAq67 l H)
theorem decAq67_ok (l : List AV) (H : List AE.Obj) (a : Aq67) (h : decAq67 l H = some a) : (l,H) = argsq67 a := pk_ok (o := decPAq67 l H) h
def outq67 : Aq67 → (AV → List AE.Obj → Ans) → Yq67 → Ans := fun (a1,a2,o1,o2) K => fun o2_y => K (.tup []) [.cells [.map 1,.map 2],.mp .i64 .str o1,.mp .i64 .str o2_y]
theorem fnq67_ok (a : Aq67) (K : AV → List AE.Obj → Ans) : fnE Tryz.tab envq67 noHint 0 70 100 Tryz.f100.ntmps Tryz.f100.results.toList annq67 bq67 (argsq67 a).1 (argsq67 a).2 K = fnq67 a (outq67 a K) := by kernel_rfl
def vFq67 (a : Aq67) (K : AV → List AE.Obj → Ans) : Ans := bindO (fnDq67 a) fun y => outq67 a K y
def Fq67 : List AV → List AE.Obj → (AV → List AE.Obj → Ans) → Ans := fun l H K => bindO (decAq67 l H) fun a => vFq67 a K
theorem Fq67_ok : FuncOk Tryz.prog 100 Fq67 := func_mkD (hint := noHint) (d := 0) (n := 70) mixed tabOk envq67Ok Tryz.func100 (bodySome (by kernel_rfl)) (by decide +kernel) annq67_ok decAq67_ok fnq67_ok fnq67_nat
--@ wal_Wal_Stage
noncomputable def envq82 : Env := [(33,.func Fq80),(97,.func Fq83),(98,.func Fq66),(99,.func Fq84),(100,.func Fq67)]
theorem envq82Ok : EnvOk Tryz.prog envq82 := EnvOk.cons Fq80_ok (EnvOk.cons Fq83_ok (EnvOk.cons Fq66_ok (EnvOk.cons Fq84_ok (EnvOk.cons Fq67_ok (EnvOk.nil)))))
noncomputable def bq82 : Code := Tryz.f24.body.getD .skip
noncomputable def Lq82_n1 : Code := codeAt [1,0,0,1,1,1,1,1,1,0] bq82
noncomputable def annLq82_n1 : Ann := .none
theorem annLq82_n1_ok : AnnOk Tryz.prog 40 Lq82_n1 annLq82_n1 := (annOk_none _ _ _)
abbrev Iq82_n1 := (Int) × (List UInt8) × (Int) × (Int) × (Int) × (Int) × (Int) × (Int) × (Bool) × (Bool) × (Int) × (Int) × (Bool) × (Int) × (Int) × (Int) × (Int) × (List (List UInt8)) × (List (Int × List UInt8)) × (List (Int × List UInt8)) × (List Int) × (List (Int × List UInt8)) × (List (Int × List UInt8))
abbrev Yq82_n1 := (Bool)
def Sq82_n1 : Iq82_n1 → St := fun (t1,t2,o0_3,o0_4,o0_5,o0_6,o0_7,o0_8,o0_9,o0_10,o1_3,o1_5,o1_6,o2_1,o2_2,o3_1,o3_2,o5,o6,o7,o8,o9,o10) => { env := [(0,.ptr 0 0),(1,.int .i64 t1),(2,.str t2)],stk := [[(0,.ptr 0 0),(1,.ptr 1 0),(2,.ptr 2 0),(3,.ptr 3 0),(4,.ptr 4 0),(6,.map 6),(9,.map 9),(10,.map 10)]],H := [.cells [.ptr 1 0,.ptr 2 0,.ptr 3 0,.int .i64 o0_3,.int .i64 o0_4,.int .i64 o0_5,.int .i64 o0_6,.int .i64 o0_7,.int .i64 o0_8,.bool o0_9,.bool o0_10,.ptr 4 0],.cells [.own 5,.map 6,.own 7,.int .i64 o1_3,.own 8,.int .i64 o1_5,.bool o1_6],.cells [.ptr 1 0,.int .i64 o2_1,.int .i64 o2_2],.cells [.ptr 1 0,.int .i64 o3_1,.int .i64 o3_2],.cells [.map 9,.map 10],.arr .str o5,.mp .i64 .str o6,.arr (.st (.pair (.int .i64) .str)) o7,.arr (.int .i64) o8,.mp .i64 .str o9,.mp .i64 .str o10],blk := 98304 }
def decPq82_n1 (s : St) : Option {x : Iq82_n1 // s = Sq82_n1 x} := match s with
  | { env := [(0,.ptr 0 0),(1,.int .i64 t1),(2,.str t2)],stk := [[(0,.ptr 0 0),(1,.ptr 1 0),(2,.ptr 2 0),(3,.ptr 3 0),(4,.ptr 4 0),(6,.map 6),(9,.map 9),(10,.map 10)]],H := [.cells [.ptr 1 0,.ptr 2 0,.ptr 3 0,.int .i64 o0_3,.int .i64 o0_4,.int .i64 o0_5,.int .i64 o0_6,.int .i64 o0_7,.int .i64 o0_8,.bool o0_9,.bool o0_10,.ptr 4 0],.cells [.own 5,.map 6,.own 7,.int .i64 o1_3,.own 8,.int .i64 o1_5,.bool o1_6],.cells [.ptr 1 0,.int .i64 o2_1,.int .i64 o2_2],.cells [.ptr 1 0,.int .i64 o3_1,.int .i64 o3_2],.cells [.map 9,.map 10],.arr .str o5,.mp .i64 .str o6,.arr (.st (.pair (.int .i64) .str)) o7,.arr (.int .i64) o8,.mp .i64 .str o9,.mp .i64 .str o10],blk := 98304 } => some ⟨(t1,t2,o0_3,o0_4,o0_5,o0_6,o0_7,o0_8,o0_9,o0_10,o1_3,o1_5,o1_6,o2_1,o2_2,o3_1,o3_2,o5,o6,o7,o8,o9,o10),rfl⟩
  | _ => none
def decq82_n1 (s : St) : Option Iq82_n1 := pk (decPq82_n1 s)
theorem decq82_n1_ok (s : St) (x : Iq82_n1) (h : decq82_n1 s = some x) : s = Sq82_n1 x := pk_ok (o := decPq82_n1 s) h
def outq82_n1 : Iq82_n1 → (Ex → St → Ans) → Yq82_n1 → Ans := fun (t1,t2,o0_3,o0_4,o0_5,o0_6,o0_7,o0_8,o0_9,o0_10,o1_3,o1_5,o1_6,o2_1,o2_2,o3_1,o3_2,o5,o6,o7,o8,o9,o10) K => fun t20_y => K (Ex.norm) { env := [(0,.ptr 0 0),(1,.int .i64 t1),(2,.str t2),(20,.bool t20_y)],stk := [[(0,.ptr 0 0),(1,.ptr 1 0),(2,.ptr 2 0),(3,.ptr 3 0),(4,.ptr 4 0),(6,.map 6),(9,.map 9),(10,.map 10)]],H := [.cells [.ptr 1 0,.ptr 2 0,.ptr 3 0,.int .i64 o0_3,.int .i64 o0_4,.int .i64 o0_5,.int .i64 o0_6,.int .i64 o0_7,.int .i64 o0_8,.bool o0_9,.bool o0_10,.ptr 4 0],.cells [.own 5,.map 6,.own 7,.int .i64 o1_3,.own 8,.int .i64 o1_5,.bool o1_6],.cells [.ptr 1 0,.int .i64 o2_1,.int .i64 o2_2],.cells [.ptr 1 0,.int .i64 o3_1,.int .i64 o3_2],.cells [.map 9,.map 10],.arr .str o5,.mp .i64 .str o6,.arr (.st (.pair (.int .i64) .str)) o7,.arr (.int .i64) o8,.mp .i64 .str o9,.mp .i64 .str o10],blk := 98304 }
def nodeq82_n1 {β : Type} : Iq82_n1 → (Yq82_n1 → Option β) → Option β := fun (t1,t2,o0_3,o0_4,o0_5,o0_6,o0_7,o0_8,o0_9,o0_10,o1_3,o1_5,o1_6,o2_1,o2_2,o3_1,o3_2,o5,o6,o7,o8,o9,o10) exit => (bindO (fnDq66 (o9,o10)) fun r => (bif decide (r ≥ (16 : Int)) then (bindO (fnDq84 (t1,o0_3,o0_4,o0_5,o0_6,o0_7,o0_8,o0_9,o0_10,o1_3,o1_5,o1_6,o2_1,o2_2,o3_1,o3_2,o5,o6,o7,o8,o9,o10)) fun r_2 => (exit (!r_2))) else (exit (false))))
def nodeDq82_n1 (i : Iq82_n1) : Option Yq82_n1 := nodeq82_n1 i some
theorem nodeq82_n1_nat (i : Iq82_n1) (k : Yq82_n1 → Ans) : nodeq82_n1 i k = bindO (nodeDq82_n1 i) k := by
  obtain ⟨t1,t2,o0_3,o0_4,o0_5,o0_6,o0_7,o0_8,o0_9,o0_10,o1_3,o1_5,o1_6,o2_1,o2_2,o3_1,o3_2,o5,o6,o7,o8,o9,o10⟩ := i
  simp only [nodeDq82_n1,nodeq82_n1,bindO_cond,bindO_assoc,bindO_none,bindO_pure,bindO_elim,bindO_unP,bindO_empty]
theorem nodeq82_n1_ok (i : Iq82_n1) (K : Ex → St → Ans) : codeI Tryz.tab envq82 noHint (codeD Tryz.tab envq82 noHint 0 64) 70 40 annLq82_n1 Lq82_n1 (weakP 11 (exk [0,1,2,20] [6] []) K) (Sq82_n1 i) = nodeq82_n1 i (outq82_n1 i K) := by kernel_rfl
theorem GNq82_n1_ok : CSum Tryz.prog 40 Lq82_n1 (sumN decq82_n1 nodeDq82_n1 outq82_n1) := csum_node mixed tabOk envq82Ok 11 (exk [0,1,2,20] [6] []) annLq82_n1_ok decq82_n1_ok nodeq82_n1_ok nodeq82_n1_nat
noncomputable def Gq82_n1 : (Ex → St → Ans) → St → Ans := (sumN decq82_n1 nodeDq82_n1 outq82_n1)
theorem Gq82_n1_ok : CSum Tryz.prog 40 Lq82_n1 Gq82_n1 := GNq82_n1_ok
noncomputable def Lq82_n0 : Code := codeAt [1,0] bq82
noncomputable def annLq82_n0 : Ann := (.block (.seq .none (.cond .none (.seq .none (.cond .none (.seq .none (.cond .none (.seq (.cut 11 [0,1,2] Gq82_n1) .none))))))))
theorem annLq82_n0_ok : AnnOk Tryz.prog 40 Lq82_n0 annLq82_n0 := ⟨(annOk_none _ _ _),⟨(annOk_none _ _ _),⟨(annOk_none _ _ _),⟨(annOk_none _ _ _),⟨(annOk_none _ _ _),⟨(annOk_none _ _ _),⟨Gq82_n1_ok,(annOk_none _ _ _)⟩⟩⟩⟩⟩⟩⟩
abbrev Iq82_n0 := (Int) × (List UInt8) × (Int) × (Int) × (Int) × (Int) × (Int) × (Int) × (Bool) × (Bool) × (Int) × (Int) × (Bool) × (Int) × (Int) × (Int) × (Int) × (List (List UInt8)) × (List (Int × List UInt8)) × (List (Int × List UInt8)) × (List Int) × (List (Int × List UInt8)) × (List (Int × List UInt8))
abbrev Yq82_n0 := ((Int)) ⊕ (Unit)
def Sq82_n0 : Iq82_n0 → St := fun (t1,t2,o0_3,o0_4,o0_5,o0_6,o0_7,o0_8,o0_9,o0_10,o1_3,o1_5,o1_6,o2_1,o2_2,o3_1,o3_2,o5,o6,o7,o8,o9,o10) => { env := [(0,.ptr 0 0),(1,.int .i64 t1),(2,.str t2)],stk := [[(0,.ptr 0 0),(1,.ptr 1 0),(2,.ptr 2 0),(3,.ptr 3 0),(4,.ptr 4 0),(6,.map 6),(9,.map 9),(10,.map 10)]],H := [.cells [.ptr 1 0,.ptr 2 0,.ptr 3 0,.int .i64 o0_3,.int .i64 o0_4,.int .i64 o0_5,.int .i64 o0_6,.int .i64 o0_7,.int .i64 o0_8,.bool o0_9,.bool o0_10,.ptr 4 0],.cells [.own 5,.map 6,.own 7,.int .i64 o1_3,.own 8,.int .i64 o1_5,.bool o1_6],.cells [.ptr 1 0,.int .i64 o2_1,.int .i64 o2_2],.cells [.ptr 1 0,.int .i64 o3_1,.int .i64 o3_2],.cells [.map 9,.map 10],.arr .str o5,.mp .i64 .str o6,.arr (.st (.pair (.int .i64) .str)) o7,.arr (.int .i64) o8,.mp .i64 .str o9,.mp .i64 .str o10],blk := 98304 }
def decPq82_n0 (s : St) : Option {x : Iq82_n0 // s = Sq82_n0 x} := match s with
  | { env := [(0,.ptr 0 0),(1,.int .i64 t1),(2,.str t2)],stk := [[(0,.ptr 0 0),(1,.ptr 1 0),(2,.ptr 2 0),(3,.ptr 3 0),(4,.ptr 4 0),(6,.map 6),(9,.map 9),(10,.map 10)]],H := [.cells [.ptr 1 0,.ptr 2 0,.ptr 3 0,.int .i64 o0_3,.int .i64 o0_4,.int .i64 o0_5,.int .i64 o0_6,.int .i64 o0_7,.int .i64 o0_8,.bool o0_9,.bool o0_10,.ptr 4 0],.cells [.own 5,.map 6,.own 7,.int .i64 o1_3,.own 8,.int .i64 o1_5,.bool o1_6],.cells [.ptr 1 0,.int .i64 o2_1,.int .i64 o2_2],.cells [.ptr 1 0,.int .i64 o3_1,.int .i64 o3_2],.cells [.map 9,.map 10],.arr .str o5,.mp .i64 .str o6,.arr (.st (.pair (.int .i64) .str)) o7,.arr (.int .i64) o8,.mp .i64 .str o9,.mp .i64 .str o10],blk := 98304 } => some ⟨(t1,t2,o0_3,o0_4,o0_5,o0_6,o0_7,o0_8,o0_9,o0_10,o1_3,o1_5,o1_6,o2_1,o2_2,o3_1,o3_2,o5,o6,o7,o8,o9,o10),rfl⟩
  | _ => none
def decq82_n0 (s : St) : Option Iq82_n0 := pk (decPq82_n0 s)
theorem decq82_n0_ok (s : St) (x : Iq82_n0) (h : decq82_n0 s = some x) : s = Sq82_n0 x := pk_ok (o := decPq82_n0 s) h
def outq82_n0 : Iq82_n0 → (Ex → St → Ans) → Yq82_n0 → Ans := fun (t1,t2,o0_3,o0_4,o0_5,o0_6,o0_7,o0_8,o0_9,o0_10,o1_3,o1_5,o1_6,o2_1,o2_2,o3_1,o3_2,o5,o6,o7,o8,o9,o10) K => (Sum.elim (fun t6_y => K (Ex.ret) { env := [(6,.int .i64 t6_y)],stk := [[(0,.ptr 0 0),(1,.ptr 1 0),(2,.ptr 2 0),(3,.ptr 3 0),(4,.ptr 4 0),(6,.map 6),(9,.map 9),(10,.map 10)]],H := [.cells [.ptr 1 0,.ptr 2 0,.ptr 3 0,.int .i64 o0_3,.int .i64 o0_4,.int .i64 o0_5,.int .i64 o0_6,.int .i64 o0_7,.int .i64 o0_8,.bool o0_9,.bool o0_10,.ptr 4 0],.cells [.own 5,.map 6,.own 7,.int .i64 o1_3,.own 8,.int .i64 o1_5,.bool o1_6],.cells [.ptr 1 0,.int .i64 o2_1,.int .i64 o2_2],.cells [.ptr 1 0,.int .i64 o3_1,.int .i64 o3_2],.cells [.map 9,.map 10],.arr .str o5,.mp .i64 .str o6,.arr (.st (.pair (.int .i64) .str)) o7,.arr (.int .i64) o8,.mp .i64 .str o9,.mp .i64 .str o10],blk := 98304 }) (fun _ => K (Ex.norm) { env := [(0,.ptr 0 0),(1,.int .i64 t1),(2,.str t2)],stk := [[(0,.ptr 0 0),(1,.ptr 1 0),(2,.ptr 2 0),(3,.ptr 3 0),(4,.ptr 4 0),(6,.map 6),(9,.map 9),(10,.map 10)]],H := [.cells [.ptr 1 0,.ptr 2 0,.ptr 3 0,.int .i64 o0_3,.int .i64 o0_4,.int .i64 o0_5,.int .i64 o0_6,.int .i64 o0_7,.int .i64 o0_8,.bool o0_9,.bool o0_10,.ptr 4 0],.cells [.own 5,.map 6,.own 7,.int .i64 o1_3,.own 8,.int .i64 o1_5,.bool o1_6],.cells [.ptr 1 0,.int .i64 o2_1,.int .i64 o2_2],.cells [.ptr 1 0,.int .i64 o3_1,.int .i64 o3_2],.cells [.map 9,.map 10],.arr .str o5,.mp .i64 .str o6,.arr (.st (.pair (.int .i64) .str)) o7,.arr (.int .i64) o8,.mp .i64 .str o9,.mp .i64 .str o10],blk := 98304 }))
def nodeq82_n0 {β : Type} : Iq82_n0 → (Yq82_n0 → Option β) → Option β := fun (t1,t2,o0_3,o0_4,o0_5,o0_6,o0_7,o0_8,o0_9,o0_10,o1_3,o1_5,o1_6,o2_1,o2_2,o3_1,o3_2,o5,o6,o7,o8,o9,o10) exit => (bindO (fnDq80 (o0_3,o0_4,o0_5,o0_6,o0_7,o0_8,o0_9,o0_10,o1_3,o1_5,o1_6,o2_1,o2_2,o3_1,o3_2,o5,o6,o7,o8,o9,o10)) fun _ => (bif !o0_9 then (exit (Sum.inl ((10 : Int)))) else (bindO (fnDq83 (t1,o0_3,o0_4,o0_5,o0_6,o0_7,o0_8,o0_9,o0_10,o1_3,o1_5,o1_6,o2_1,o2_2,o3_1,o3_2,o5,o6,o7,o8,o9,o10)) fun r => (bif !r then (exit (Sum.inl ((3 : Int)))) else (bif (↑(List.length t2) : Int) != (64 : Int) then (exit (Sum.inl ((12 : Int)))) else (bindO (nodeDq82_n1 (t1,t2,o0_3,o0_4,o0_5,o0_6,o0_7,o0_8,o0_9,o0_10,o1_3,o1_5,o1_6,o2_1,o2_2,o3_1,o3_2,o5,o6,o7,o8,o9,o10)) fun t20 => (bif t20 then (exit (Sum.inl ((6 : Int)))) else (exit (Sum.inr ())))))))))
def nodeDq82_n0 (i : Iq82_n0) : Option Yq82_n0 := nodeq82_n0 i some
theorem nodeq82_n0_nat (i : Iq82_n0) (k : Yq82_n0 → Ans) : nodeq82_n0 i k = bindO (nodeDq82_n0 i) k := by
  obtain ⟨t1,t2,o0_3,o0_4,o0_5,o0_6,o0_7,o0_8,o0_9,o0_10,o1_3,o1_5,o1_6,o2_1,o2_2,o3_1,o3_2,o5,o6,o7,o8,o9,o10⟩ := i
  simp only [nodeDq82_n0,nodeq82_n0,bindO_cond,bindO_assoc,bindO_none,bindO_pure,bindO_elim,bindO_unP,bindO_empty]
theorem nodeq82_n0_ok (i : Iq82_n0) (K : Ex → St → Ans) : codeI Tryz.tab envq82 noHint (codeD Tryz.tab envq82 noHint 0 64) 70 40 annLq82_n0 Lq82_n0 (weakP 11 (exk [0,1,2] [6] []) K) (Sq82_n0 i) = nodeq82_n0 i (outq82_n0 i K) := by kernel_rfl
theorem GNq82_n0_ok : CSum Tryz.prog 40 Lq82_n0 (sumN decq82_n0 nodeDq82_n0 outq82_n0) := csum_node mixed tabOk envq82Ok 11 (exk [0,1,2] [6] []) annLq82_n0_ok decq82_n0_ok nodeq82_n0_ok nodeq82_n0_nat
noncomputable def Gq82_n0 : (Ex → St → Ans) → St → Ans := (sumN decq82_n0 nodeDq82_n0 outq82_n0)
theorem Gq82_n0_ok : CSum Tryz.prog 40 Lq82_n0 Gq82_n0 := GNq82_n0_ok
noncomputable def annq82 : Ann := (.seq .none (.seq (.cut 11 [0,1,2] Gq82_n0) .none))
theorem annq82_ok : AnnOk Tryz.prog 40 bq82 annq82 := ⟨(annOk_none _ _ _),⟨Gq82_n0_ok,(annOk_none _ _ _)⟩⟩
abbrev Aq82 := (Int) × (List UInt8) × (Int) × (Int) × (Int) × (Int) × (Int) × (Int) × (Bool) × (Bool) × (Int) × (Int) × (Bool) × (Int) × (Int) × (Int) × (Int) × (List (List UInt8)) × (List (Int × List UInt8)) × (List (Int × List UInt8)) × (List Int) × (List (Int × List UInt8)) × (List (Int × List UInt8))
abbrev Yq82 := (Int) × (List (Int × List UInt8))
def fnq82 {β : Type} : Aq82 → (Yq82 → Option β) → Option β := fun (a1,a2,o0_3,o0_4,o0_5,o0_6,o0_7,o0_8,o0_9,o0_10,o1_3,o1_5,o1_6,o2_1,o2_2,o3_1,o3_2,o5,o6,o7,o8,o9,o10) exit => (bindO (nodeDq82_n0 (a1,a2,o0_3,o0_4,o0_5,o0_6,o0_7,o0_8,o0_9,o0_10,o1_3,o1_5,o1_6,o2_1,o2_2,o3_1,o3_2,o5,o6,o7,o8,o9,o10)) (Sum.elim (fun t6 => (exit (t6,o10))) (fun _ => (bindO (fnDq67 (a1,a2,o9,o10)) fun o2 => (exit ((0 : Int),o2))))))
def fnDq82 (a : Aq82) : Option Yq82 := fnq82 a some
theorem fnq82_nat (a : Aq82) (k : Yq82 → Ans) : fnq82 a k = bindO (fnDq82 a) k := by
  obtain ⟨a1,a2,o0_3,o0_4,o0_5,o0_6,o0_7,o0_8,o0_9,o0_10,o1_3,o1_5,o1_6,o2_1,o2_2,o3_1,o3_2,o5,o6,o7,o8,o9,o10⟩ := a
  simp only [fnDq82,fnq82,bindO_cond,bindO_assoc,bindO_none,bindO_pure,bindO_elim,bindO_unP,bindO_empty]
def argsq82 : Aq82 → List AV × List AE.Obj := fun (a1,a2,o0_3,o0_4,o0_5,o0_6,o0_7,o0_8,o0_9,o0_10,o1_3,o1_5,o1_6,o2_1,o2_2,o3_1,o3_2,o5,o6,o7,o8,o9,o10) => ([.ptr 0 0,.int .i64 a1,.str a2],[.cells [.ptr 1 0,.ptr 2 0,.ptr 3 0,.int .i64 o0_3,.int .i64 o0_4,.int .i64 o0_5,.int .i64 o0_6,.int .i64 o0_7,.int .i64 o0_8,.bool o0_9,.bool o0_10,.ptr 4 0],.cells [.own 5,.map 6,.own 7,.int .i64 o1_3,.own 8,.int .i64 o1_5,.bool o1_6],.cells [.ptr 1 0,.int .i64 o2_1,.int .i64 o2_2],.cells [.ptr 1 0,.int .i64 o3_1,.int .i64 o3_2],.cells [.map 9,.map 10],.arr .str o5,.mp .i64 .str o6,.arr (.st (.pair (.int .i64) .str)) o7,.arr (.int .i64) o8,.mp .i64 .str o9,.mp .i64 .str o10])
def decPAq82 (l : List AV) (H : List AE.Obj) : Option {a : Aq82 // (l,H) = argsq82 a} := match l,H with
  | [.ptr 0 0,.int .i64 a1,.str a2],[.cells [.ptr 1 0,.ptr 2 0,.ptr 3 0,.int .i64 o0_3,.int .i64 o0_4,.int .i64 o0_5,.int .i64 o0_6,.int .i64 o0_7,.int .i64 o0_8,.bool o0_9,.bool o0_10,.ptr 4 0],.cells [.own 5,.map 6,.own 7,.int .i64 o1_3,.own 8,.int .i64 o1_5,.bool o1_6],.cells [.ptr 1 0,.int .i64 o2_1,.int .i64 o2_2],.cells [.ptr 1 0,.int .i64 o3_1,.int .i64 o3_2],.cells [.map 9,.map 10],.arr .str o5,.mp .i64 .str o6,.arr (.st (.pair (.int .i64) .str)) o7,.arr (.int .i64) o8,.mp .i64 .str o9,.mp .i64 .str o10] => some ⟨(a1,a2,o0_3,o0_4,o0_5,o0_6,o0_7,o0_8,o0_9,o0_10,o1_3,o1_5,o1_6,o2_1,o2_2,o3_1,o3_2,o5,o6,o7,o8,o9,o10),rfl⟩
  | _,_ => none
def decAq82 (l : List AV) (H : List AE.Obj) : Option Aq82 := pk (decPAq82 l H)
theorem decAq82_ok (l : List AV) (H : List AE.Obj) (a : Aq82) (h : decAq82 l H = some a) : (l,H) = argsq82 a := pk_ok (o := decPAq82 l H) h
def outq82 : Aq82 → (AV → List AE.Obj → Ans) → Yq82 → Ans := fun (a1,a2,o0_3,o0_4,o0_5,o0_6,o0_7,o0_8,o0_9,o0_10,o1_3,o1_5,o1_6,o2_1,o2_2,o3_1,o3_2,o5,o6,o7,o8,o9,o10) K => unP fun r_y o10_y => K (.int .i64 r_y) [.cells [.ptr 1 0,.ptr 2 0,.ptr 3 0,.int .i64 o0_3,.int .i64 o0_4,.int .i64 o0_5,.int .i64 o0_6,.int .i64 o0_7,.int .i64 o0_8,.bool o0_9,.bool o0_10,.ptr 4 0],.cells [.own 5,.map 6,.own 7,.int .i64 o1_3,.own 8,.int .i64 o1_5,.bool o1_6],.cells [.ptr 1 0,.int .i64 o2_1,.int .i64 o2_2],.cells [.ptr 1 0,.int .i64 o3_1,.int .i64 o3_2],.cells [.map 9,.map 10],.arr .str o5,.mp .i64 .str o6,.arr (.st (.pair (.int .i64) .str)) o7,.arr (.int .i64) o8,.mp .i64 .str o9,.mp .i64 .str o10_y]
theorem fnq82_ok (a : Aq82) (K : AV → List AE.Obj → Ans) : fnE Tryz.tab envq82 noHint 0 70 24 Tryz.f24.ntmps Tryz.f24.results.toList annq82 bq82 (argsq82 a).1 (argsq82 a).2 K = fnq82 a (outq82 a K) := by kernel_rfl
def vFq82 (a : Aq82) (K : AV → List AE.Obj → Ans) : Ans := bindO (fnDq82 a) fun y => outq82 a K y
def Fq82 : List AV → List AE.Obj → (AV → List AE.Obj → Ans) → Ans := fun l H K => bindO (decAq82 l H) fun a => vFq82 a K
theorem Fq82_ok : FuncOk Tryz.prog 24 Fq82 := func_mkD (hint := noHint) (d := 0) (n := 70) mixed tabOk envq82Ok Tryz.func24 (bodySome (by kernel_rfl)) (by decide +kernel) annq82_ok decAq82_ok fnq82_ok fnq82_nat
--@ extent_Save
noncomputable def envq15 : Env := [(24,.func Fq82)]
theorem envq15Ok : EnvOk Tryz.prog envq15 := EnvOk.cons Fq82_ok (EnvOk.nil)
noncomputable def bq15 : Code := Tryz.f36.body.getD .skip
noncomputable def Lq15_n1 : Code := codeAt [1,1,1,0,1,0,0] bq15
noncomputable def annLq15_n1 : Ann := .at 11 [0,1,2,26,27] (.loop .none)
theorem annLq15_n1_ok : AnnOk Tryz.prog 44 (.loop Lq15_n1) annLq15_n1 := annOk_at (annOk_none _ _ _)
abbrev Iq15_n1 := (Int) × (List UInt8) × (Int) × (Int) × (Int) × (Int) × (Int) × (Int) × (Int) × (Bool) × (Bool) × (Int) × (Int) × (Bool) × (Int) × (Int) × (Int) × (Int) × (List (List UInt8)) × (List (Int × List UInt8)) × (List (Int × List UInt8)) × (List Int) × (List (Int × List UInt8))
abbrev Yq15_n1 := ((Int) × (List (Int × List UInt8))) ⊕ ((List (Int × List UInt8)))
abbrev Vq15_n1 := (Int) × (List (Int × List UInt8))
def Sq15_n1 : Iq15_n1 → Vq15_n1 → St := fun (t1,t2,t26,o0_3,o0_4,o0_5,o0_6,o0_7,o0_8,o0_9,o0_10,o1_3,o1_5,o1_6,o2_1,o2_2,o3_1,o3_2,o5,o6,o7,o8,o9) (t27,o10) => { env := [(0,.ptr 0 0),(1,.int .i64 t1),(2,.str t2),(26,.int .i64 t26),(27,.int .i64 t27)],stk := [[(0,.ptr 0 0),(1,.ptr 1 0),(2,.ptr 2 0),(3,.ptr 3 0),(4,.ptr 4 0),(6,.map 6),(9,.map 9),(10,.map 10)]],H := [.cells [.ptr 1 0,.ptr 2 0,.ptr 3 0,.int .i64 o0_3,.int .i64 o0_4,.int .i64 o0_5,.int .i64 o0_6,.int .i64 o0_7,.int .i64 o0_8,.bool o0_9,.bool o0_10,.ptr 4 0],.cells [.own 5,.map 6,.own 7,.int .i64 o1_3,.own 8,.int .i64 o1_5,.bool o1_6],.cells [.ptr 1 0,.int .i64 o2_1,.int .i64 o2_2],.cells [.ptr 1 0,.int .i64 o3_1,.int .i64 o3_2],.cells [.map 9,.map 10],.arr .str o5,.mp .i64 .str o6,.arr (.st (.pair (.int .i64) .str)) o7,.arr (.int .i64) o8,.mp .i64 .str o9,.mp .i64 .str o10],blk := 147456 }
def decPq15_n1 (s : St) : Option {x : Iq15_n1 × Vq15_n1 // s = Sq15_n1 x.1 x.2} := match s with
  | { env := [(0,.ptr 0 0),(1,.int .i64 t1),(2,.str t2),(26,.int .i64 t26),(27,.int .i64 t27)],stk := [[(0,.ptr 0 0),(1,.ptr 1 0),(2,.ptr 2 0),(3,.ptr 3 0),(4,.ptr 4 0),(6,.map 6),(9,.map 9),(10,.map 10)]],H := [.cells [.ptr 1 0,.ptr 2 0,.ptr 3 0,.int .i64 o0_3,.int .i64 o0_4,.int .i64 o0_5,.int .i64 o0_6,.int .i64 o0_7,.int .i64 o0_8,.bool o0_9,.bool o0_10,.ptr 4 0],.cells [.own 5,.map 6,.own 7,.int .i64 o1_3,.own 8,.int .i64 o1_5,.bool o1_6],.cells [.ptr 1 0,.int .i64 o2_1,.int .i64 o2_2],.cells [.ptr 1 0,.int .i64 o3_1,.int .i64 o3_2],.cells [.map 9,.map 10],.arr .str o5,.mp .i64 .str o6,.arr (.st (.pair (.int .i64) .str)) o7,.arr (.int .i64) o8,.mp .i64 .str o9,.mp .i64 .str o10],blk := 147456 } => some ⟨((t1,t2,t26,o0_3,o0_4,o0_5,o0_6,o0_7,o0_8,o0_9,o0_10,o1_3,o1_5,o1_6,o2_1,o2_2,o3_1,o3_2,o5,o6,o7,o8,o9),(t27,o10)),rfl⟩
  | _ => none
def decq15_n1 (s : St) : Option (Iq15_n1 × Vq15_n1) := pk (decPq15_n1 s)
theorem decq15_n1_ok (s : St) (x : Iq15_n1 × Vq15_n1) (h : decq15_n1 s = some x) : s = Sq15_n1 x.1 x.2 := pk_ok (o := decPq15_n1 s) h
def outq15_n1 : Iq15_n1 → (Ex → St → Ans) → Yq15_n1 → Ans := fun (t1,t2,t26,o0_3,o0_4,o0_5,o0_6,o0_7,o0_8,o0_9,o0_10,o1_3,o1_5,o1_6,o2_1,o2_2,o3_1,o3_2,o5,o6,o7,o8,o9) K => (Sum.elim (unP fun t6_y o10_y => K (Ex.ret) { env := [(6,.int .i64 t6_y)],stk := [[(0,.ptr 0 0),(1,.ptr 1 0),(2,.ptr 2 0),(3,.ptr 3 0),(4,.ptr 4 0),(6,.map 6),(9,.map 9),(10,.map 10)]],H := [.cells [.ptr 1 0,.ptr 2 0,.ptr 3 0,.int .i64 o0_3,.int .i64 o0_4,.int .i64 o0_5,.int .i64 o0_6,.int .i64 o0_7,.int .i64 o0_8,.bool o0_9,.bool o0_10,.ptr 4 0],.cells [.own 5,.map 6,.own 7,.int .i64 o1_3,.own 8,.int .i64 o1_5,.bool o1_6],.cells [.ptr 1 0,.int .i64 o2_1,.int .i64 o2_2],.cells [.ptr 1 0,.int .i64 o3_1,.int .i64 o3_2],.cells [.map 9,.map 10],.arr .str o5,.mp .i64 .str o6,.arr (.st (.pair (.int .i64) .str)) o7,.arr (.int .i64) o8,.mp .i64 .str o9,.mp .i64 .str o10_y],blk := 147457 }) (fun o10_y => K (Ex.exit 0) { env := [],stk := [[(0,.ptr 0 0),(1,.ptr 1 0),(2,.ptr 2 0),(3,.ptr 3 0),(4,.ptr 4 0),(6,.map 6),(9,.map 9),(10,.map 10)]],H := [.cells [.ptr 1 0,.ptr 2 0,.ptr 3 0,.int .i64 o0_3,.int .i64 o0_4,.int .i64 o0_5,.int .i64 o0_6,.int .i64 o0_7,.int .i64 o0_8,.bool o0_9,.bool o0_10,.ptr 4 0],.cells [.own 5,.map 6,.own 7,.int .i64 o1_3,.own 8,.int .i64 o1_5,.bool o1_6],.cells [.ptr 1 0,.int .i64 o2_1,.int .i64 o2_2],.cells [.ptr 1 0,.int .i64 o3_1,.int .i64 o3_2],.cells [.map 9,.map 10],.arr .str o5,.mp .i64 .str o6,.arr (.st (.pair (.int .i64) .str)) o7,.arr (.int .i64) o8,.mp .i64 .str o9,.mp .i64 .str o10_y],blk := 147456 }))
def stepq15_n1 {β : Type} : Iq15_n1 → Vq15_n1 → (Vq15_n1 → Option β) → (Yq15_n1 → Option β) → Option β := fun (t1,t2,t26,o0_3,o0_4,o0_5,o0_6,o0_7,o0_8,o0_9,o0_10,o1_3,o1_5,o1_6,o2_1,o2_2,o3_1,o3_2,o5,o6,o7,o8,o9) (t27,o10) next exit => (bif decide (t27 < t26) then (bif inR (IntKind.wrap .i64 (t27 * (64 : Int))) (List.length t2 + (1 : Nat)) then (bif inR (64 : Int) (List.length (List.drop (Int.toNat (IntKind.wrap .i64 (t27 * (64 : Int)))) t2) + (1 : Nat)) then (bindO (fnDq82 (IntKind.wrap .i64 (t1 + t27),List.take (64 : Nat) (List.drop (Int.toNat (IntKind.wrap .i64 (t27 * (64 : Int)))) t2),o0_3,o0_4,o0_5,o0_6,o0_7,o0_8,o0_9,o0_10,o1_3,o1_5,o1_6,o2_1,o2_2,o3_1,o3_2,o5,o6,o7,o8,o9,o10)) (unP fun r o10_2 => (bif r != (0 : Int) then (exit (Sum.inl (r,o10_2))) else (next (IntKind.wrap .i64 (t27 + (1 : Int)),o10_2))))) else none) else none) else (exit (Sum.inr (o10))))
def stepDq15_n1 (i : Iq15_n1) (v : Vq15_n1) : Option (Vq15_n1 ⊕ Yq15_n1) := stepq15_n1 i v (fun v => some (.inl v)) (fun y => some (.inr y))
theorem stepq15_n1_nat (i : Iq15_n1) (v : Vq15_n1) (next : Vq15_n1 → Ans) (exit : Yq15_n1 → Ans) : stepq15_n1 i v next exit = bindO (stepDq15_n1 i v) (Sum.elim next exit) := by
  obtain ⟨t1,t2,t26,o0_3,o0_4,o0_5,o0_6,o0_7,o0_8,o0_9,o0_10,o1_3,o1_5,o1_6,o2_1,o2_2,o3_1,o3_2,o5,o6,o7,o8,o9⟩ := i
  obtain ⟨t27,o10⟩ := v
  simp only [stepDq15_n1,stepq15_n1,bindO_cond,bindO_assoc,bindO_none,bindO_pure,bindO_elim,bindO_unP,bindO_empty,Sum.elim_inl,Sum.elim_inr]
theorem stepq15_n1_ok (n : Nat) (i : Iq15_n1) (v : Vq15_n1) (K : Ex → St → Ans) : codeI Tryz.tab envq15 noHint (codeD Tryz.tab envq15 noHint 0 64) (n+1) 44 annLq15_n1 (.loop Lq15_n1) (weakP 11 (exk [] [6] [(0,[])]) K) (Sq15_n1 i v) = stepq15_n1 i v (fun v' => codeI Tryz.tab envq15 noHint (codeD Tryz.tab envq15 noHint 0 64) n 44 annLq15_n1 (.loop Lq15_n1) (weakP 11 (exk [] [6] [(0,[])]) K) (Sq15_n1 i v')) (fun y => outq15_n1 i K y) := by kernel_rfl
theorem GNq15_n1_ok : CSum Tryz.prog 44 (.loop Lq15_n1) (sumL decq15_n1 stepDq15_n1 outq15_n1) := csum_loop mixed tabOk envq15Ok 11 (exk [] [6] [(0,[])]) annLq15_n1_ok decq15_n1_ok stepq15_n1_ok stepq15_n1_nat
noncomputable def Gq15_n1 : (Ex → St → Ans) → St → Ans := (sumL decq15_n1 stepDq15_n1 outq15_n1)
theorem Gq15_n1_ok : CSum Tryz.prog 44 (.loop Lq15_n1) Gq15_n1 := GNq15_n1_ok
noncomputable def Lq15_n0 : Code := codeAt [1,1,0,0] bq15
noncomputable def annLq15_n0 : Ann := .none
theorem annLq15_n0_ok : AnnOk Tryz.prog 44 Lq15_n0 annLq15_n0 := (annOk_none _ _ _)
abbrev Iq15_n0 := (Int) × (List UInt8) × (Int) × (Int) × (Int) × (Int) × (Int) × (Int) × (Int) × (Bool) × (Bool) × (Int) × (Int) × (Bool) × (Int) × (Int) × (Int) × (Int) × (List (List UInt8)) × (List (Int × List UInt8)) × (List (Int × List UInt8)) × (List Int) × (List (Int × List UInt8)) × (List (Int × List UInt8))
abbrev Yq15_n0 := (Bool)
def Sq15_n0 : Iq15_n0 → St := fun (t1,t2,t7,o0_3,o0_4,o0_5,o0_6,o0_7,o0_8,o0_9,o0_10,o1_3,o1_5,o1_6,o2_1,o2_2,o3_1,o3_2,o5,o6,o7,o8,o9,o10) => { env := [(0,.ptr 0 0),(1,.int .i64 t1),(2,.str t2),(7,.int .i64 t7)],stk := [[(0,.ptr 0 0),(1,.ptr 1 0),(2,.ptr 2 0),(3,.ptr 3 0),(4,.ptr 4 0),(6,.map 6),(9,.map 9),(10,.map 10)]],H := [.cells [.ptr 1 0,.ptr 2 0,.ptr 3 0,.int .i64 o0_3,.int .i64 o0_4,.int .i64 o0_5,.int .i64 o0_6,.int .i64 o0_7,.int .i64 o0_8,.bool o0_9,.bool o0_10,.ptr 4 0],.cells [.own 5,.map 6,.own 7,.int .i64 o1_3,.own 8,.int .i64 o1_5,.bool o1_6],.cells [.ptr 1 0,.int .i64 o2_1,.int .i64 o2_2],.cells [.ptr 1 0,.int .i64 o3_1,.int .i64 o3_2],.cells [.map 9,.map 10],.arr .str o5,.mp .i64 .str o6,.arr (.st (.pair (.int .i64) .str)) o7,.arr (.int .i64) o8,.mp .i64 .str o9,.mp .i64 .str o10],blk := 147456 }
def decPq15_n0 (s : St) : Option {x : Iq15_n0 // s = Sq15_n0 x} := match s with
  | { env := [(0,.ptr 0 0),(1,.int .i64 t1),(2,.str t2),(7,.int .i64 t7)],stk := [[(0,.ptr 0 0),(1,.ptr 1 0),(2,.ptr 2 0),(3,.ptr 3 0),(4,.ptr 4 0),(6,.map 6),(9,.map 9),(10,.map 10)]],H := [.cells [.ptr 1 0,.ptr 2 0,.ptr 3 0,.int .i64 o0_3,.int .i64 o0_4,.int .i64 o0_5,.int .i64 o0_6,.int .i64 o0_7,.int .i64 o0_8,.bool o0_9,.bool o0_10,.ptr 4 0],.cells [.own 5,.map 6,.own 7,.int .i64 o1_3,.own 8,.int .i64 o1_5,.bool o1_6],.cells [.ptr 1 0,.int .i64 o2_1,.int .i64 o2_2],.cells [.ptr 1 0,.int .i64 o3_1,.int .i64 o3_2],.cells [.map 9,.map 10],.arr .str o5,.mp .i64 .str o6,.arr (.st (.pair (.int .i64) .str)) o7,.arr (.int .i64) o8,.mp .i64 .str o9,.mp .i64 .str o10],blk := 147456 } => some ⟨(t1,t2,t7,o0_3,o0_4,o0_5,o0_6,o0_7,o0_8,o0_9,o0_10,o1_3,o1_5,o1_6,o2_1,o2_2,o3_1,o3_2,o5,o6,o7,o8,o9,o10),rfl⟩
  | _ => none
def decq15_n0 (s : St) : Option Iq15_n0 := pk (decPq15_n0 s)
theorem decq15_n0_ok (s : St) (x : Iq15_n0) (h : decq15_n0 s = some x) : s = Sq15_n0 x := pk_ok (o := decPq15_n0 s) h
def outq15_n0 : Iq15_n0 → (Ex → St → Ans) → Yq15_n0 → Ans := fun (t1,t2,t7,o0_3,o0_4,o0_5,o0_6,o0_7,o0_8,o0_9,o0_10,o1_3,o1_5,o1_6,o2_1,o2_2,o3_1,o3_2,o5,o6,o7,o8,o9,o10) K => fun t25_y => K (Ex.norm) { env := [(0,.ptr 0 0),(1,.int .i64 t1),(2,.str t2),(7,.int .i64 t7),(25,.bool t25_y)],stk := [[(0,.ptr 0 0),(1,.ptr 1 0),(2,.ptr 2 0),(3,.ptr 3 0),(4,.ptr 4 0),(6,.map 6),(9,.map 9),(10,.map 10)]],H := [.cells [.ptr 1 0,.ptr 2 0,.ptr 3 0,.int .i64 o0_3,.int .i64 o0_4,.int .i64 o0_5,.int .i64 o0_6,.int .i64 o0_7,.int .i64 o0_8,.bool o0_9,.bool o0_10,.ptr 4 0],.cells [.own 5,.map 6,.own 7,.int .i64 o1_3,.own 8,.int .i64 o1_5,.bool o1_6],.cells [.ptr 1 0,.int .i64 o2_1,.int .i64 o2_2],.cells [.ptr 1 0,.int .i64 o3_1,.int .i64 o3_2],.cells [.map 9,.map 10],.arr .str o5,.mp .i64 .str o6,.arr (.st (.pair (.int .i64) .str)) o7,.arr (.int .i64) o8,.mp .i64 .str o9,.mp .i64 .str o10],blk := 147456 }
def nodeq15_n0 {β : Type} : Iq15_n0 → (Yq15_n0 → Option β) → Option β := fun (t1,t2,t7,o0_3,o0_4,o0_5,o0_6,o0_7,o0_8,o0_9,o0_10,o1_3,o1_5,o1_6,o2_1,o2_2,o3_1,o3_2,o5,o6,o7,o8,o9,o10) exit => (bif decide (t7 < (1 : Int)) then (exit (true)) else (bif decide (t7 > (16 : Int)) then (exit (true)) else (exit (IntKind.wrap .i64 (t7 * (64 : Int)) != (↑(List.length t2) : Int)))))
def nodeDq15_n0 (i : Iq15_n0) : Option Yq15_n0 := nodeq15_n0 i some
theorem nodeq15_n0_nat (i : Iq15_n0) (k : Yq15_n0 → Ans) : nodeq15_n0 i k = bindO (nodeDq15_n0 i) k := by
  obtain ⟨t1,t2,t7,o0_3,o0_4,o0_5,o0_6,o0_7,o0_8,o0_9,o0_10,o1_3,o1_5,o1_6,o2_1,o2_2,o3_1,o3_2,o5,o6,o7,o8,o9,o10⟩ := i
  simp only [nodeDq15_n0,nodeq15_n0,bindO_cond,bindO_assoc,bindO_none,bindO_pure,bindO_elim,bindO_unP,bindO_empty]
theorem nodeq15_n0_ok (i : Iq15_n0) (K : Ex → St → Ans) : codeI Tryz.tab envq15 noHint (codeD Tryz.tab envq15 noHint 0 64) 70 44 annLq15_n0 Lq15_n0 (weakP 11 (exk [0,1,2,7,25] [6] []) K) (Sq15_n0 i) = nodeq15_n0 i (outq15_n0 i K) := by kernel_rfl
theorem GNq15_n0_ok : CSum Tryz.prog 44 Lq15_n0 (sumN decq15_n0 nodeDq15_n0 outq15_n0) := csum_node mixed tabOk envq15Ok 11 (exk [0,1,2,7,25] [6] []) annLq15_n0_ok decq15_n0_ok nodeq15_n0_ok nodeq15_n0_nat
noncomputable def Gq15_n0 : (Ex → St → Ans) → St → Ans := (sumN decq15_n0 nodeDq15_n0 outq15_n0)
theorem Gq15_n0_ok : CSum Tryz.prog 44 Lq15_n0 Gq15_n0 := GNq15_n0_ok
noncomputable def annq15 : Ann := (.seq .none (.seq .none (.seq (.seq (.cut 11 [0,1,2,7] Gq15_n0) .none) (.seq (.seq .none (.block (.cut 11 [0,1,2,26,27] Gq15_n1))) .none))))
theorem annq15_ok : AnnOk Tryz.prog 44 bq15 annq15 := ⟨(annOk_none _ _ _),⟨(annOk_none _ _ _),⟨⟨Gq15_n0_ok,(annOk_none _ _ _)⟩,⟨⟨(annOk_none _ _ _),Gq15_n1_ok⟩,(annOk_none _ _ _)⟩⟩⟩⟩
abbrev Aq15 := (Int) × (List UInt8) × (Int) × (Int) × (Int) × (Int) × (Int) × (Int) × (Bool) × (Bool) × (Int) × (Int) × (Bool) × (Int) × (Int) × (Int) × (Int) × (List (List UInt8)) × (List (Int × List UInt8)) × (List (Int × List UInt8)) × (List Int) × (List (Int × List UInt8)) × (List (Int × List UInt8))
abbrev Yq15 := (Int) × (List (Int × List UInt8))
def fnq15 {β : Type} : Aq15 → (Yq15 → Option β) → Option β := fun (a1,a2,o0_3,o0_4,o0_5,o0_6,o0_7,o0_8,o0_9,o0_10,o1_3,o1_5,o1_6,o2_1,o2_2,o3_1,o3_2,o5,o6,o7,o8,o9,o10) exit => (bindO (nodeDq15_n0 (a1,a2,IntKind.wrap .i64 (Int.tdiv (↑(List.length a2) : Int) (64 : Int)),o0_3,o0_4,o0_5,o0_6,o0_7,o0_8,o0_9,o0_10,o1_3,o1_5,o1_6,o2_1,o2_2,o3_1,o3_2,o5,o6,o7,o8,o9,o10)) fun t25 => (bif t25 then (exit ((12 : Int),o10)) else (bindO (loopD (stepDq15_n1 (a1,a2,IntKind.wrap .i64 (Int.tdiv (↑(List.length a2) : Int) (64 : Int)),o0_3,o0_4,o0_5,o0_6,o0_7,o0_8,o0_9,o0_10,o1_3,o1_5,o1_6,o2_1,o2_2,o3_1,o3_2,o5,o6,o7,o8,o9)) FUEL ((0 : Int),o10)) (Sum.elim (unP fun t6 o10_2 => (exit (t6,o10_2))) (fun o10_2 => (exit ((0 : Int),o10_2)))))))
def fnDq15 (a : Aq15) : Option Yq15 := fnq15 a some
theorem fnq15_nat (a : Aq15) (k : Yq15 → Ans) : fnq15 a k = bindO (fnDq15 a) k := by
  obtain ⟨a1,a2,o0_3,o0_4,o0_5,o0_6,o0_7,o0_8,o0_9,o0_10,o1_3,o1_5,o1_6,o2_1,o2_2,o3_1,o3_2,o5,o6,o7,o8,o9,o10⟩ := a
  simp only [fnDq15,fnq15,bindO_cond,bindO_assoc,bindO_none,bindO_pure,bindO_elim,bindO_unP,bindO_empty]
def argsq15 : Aq15 → List AV × List AE.Obj := fun (a1,a2,o0_3,o0_4,o0_5,o0_6,o0_7,o0_8,o0_9,o0_10,o1_3,o1_5,o1_6,o2_1,o2_2,o3_1,o3_2,o5,o6,o7,o8,o9,o10) => ([.ptr 0 0,.int .i64 a1,.str a2],[.cells [.ptr 1 0,.ptr 2 0,.ptr 3 0,.int .i64 o0_3,.int .i64 o0_4,.int .i64 o0_5,.int .i64 o0_6,.int .i64 o0_7,.int .i64 o0_8,.bool o0_9,.bool o0_10,.ptr 4 0],.cells [.own 5,.map 6,.own 7,.int .i64 o1_3,.own 8,.int .i64 o1_5,.bool o1_6],.cells [.ptr 1 0,.int .i64 o2_1,.int .i64 o2_2],.cells [.ptr 1 0,.int .i64 o3_1,.int .i64 o3_2],.cells [.map 9,.map 10],.arr .str o5,.mp .i64 .str o6,.arr (.st (.pair (.int .i64) .str)) o7,.arr (.int .i64) o8,.mp .i64 .str o9,.mp .i64 .str o10])
def decPAq15 (l : List AV) (H : List AE.Obj) : Option {a : Aq15 // (l,H) = argsq15 a} := match l,H with
  | [.ptr 0 0,.int .i64 a1,.str a2],[.cells [.ptr 1 0,.ptr 2 0,.ptr 3 0,.int .i64 o0_3,.int .i64 o0_4,.int .i64 o0_5,.int .i64 o0_6,.int .i64 o0_7,.int .i64 o0_8,.bool o0_9,.bool o0_10,.ptr 4 0],.cells [.own 5,.map 6,.own 7,.int .i64 o1_3,.own 8,.int .i64 o1_5,.bool o1_6],.cells [.ptr 1 0,.int .i64 o2_1,.int .i64 o2_2],.cells [.ptr 1 0,.int .i64 o3_1,.int .i64 o3_2],.cells [.map 9,.map 10],.arr .str o5,.mp .i64 .str o6,.arr (.st (.pair (.int .i64) .str)) o7,.arr (.int .i64) o8,.mp .i64 .str o9,.mp .i64 .str o10] => some ⟨(a1,a2,o0_3,o0_4,o0_5,o0_6,o0_7,o0_8,o0_9,o0_10,o1_3,o1_5,o1_6,o2_1,o2_2,o3_1,o3_2,o5,o6,o7,o8,o9,o10),rfl⟩
  | _,_ => none
def decAq15 (l : List AV) (H : List AE.Obj) : Option Aq15 := pk (decPAq15 l H)
theorem decAq15_ok (l : List AV) (H : List AE.Obj) (a : Aq15) (h : decAq15 l H = some a) : (l,H) = argsq15 a := pk_ok (o := decPAq15 l H) h
def outq15 : Aq15 → (AV → List AE.Obj → Ans) → Yq15 → Ans := fun (a1,a2,o0_3,o0_4,o0_5,o0_6,o0_7,o0_8,o0_9,o0_10,o1_3,o1_5,o1_6,o2_1,o2_2,o3_1,o3_2,o5,o6,o7,o8,o9,o10) K => unP fun r_y o10_y => K (.int .i64 r_y) [.cells [.ptr 1 0,.ptr 2 0,.ptr 3 0,.int .i64 o0_3,.int .i64 o0_4,.int .i64 o0_5,.int .i64 o0_6,.int .i64 o0_7,.int .i64 o0_8,.bool o0_9,.bool o0_10,.ptr 4 0],.cells [.own 5,.map 6,.own 7,.int .i64 o1_3,.own 8,.int .i64 o1_5,.bool o1_6],.cells [.ptr 1 0,.int .i64 o2_1,.int .i64 o2_2],.cells [.ptr 1 0,.int .i64 o3_1,.int .i64 o3_2],.cells [.map 9,.map 10],.arr .str o5,.mp .i64 .str o6,.arr (.st (.pair (.int .i64) .str)) o7,.arr (.int .i64) o8,.mp .i64 .str o9,.mp .i64 .str o10_y]
theorem fnq15_ok (a : Aq15) (K : AV → List AE.Obj → Ans) : fnE Tryz.tab envq15 noHint 0 70 36 Tryz.f36.ntmps Tryz.f36.results.toList annq15 bq15 (argsq15 a).1 (argsq15 a).2 K = fnq15 a (outq15 a K) := by kernel_rfl
def vFq15 (a : Aq15) (K : AV → List AE.Obj → Ans) : Ans := bindO (fnDq15 a) fun y => outq15 a K y
def Fq15 : List AV → List AE.Obj → (AV → List AE.Obj → Ans) → Ans := fun l H K => bindO (decAq15 l H) fun a => vFq15 a K
theorem Fq15_ok : FuncOk Tryz.prog 36 Fq15 := func_mkD (hint := noHint) (d := 0) (n := 70) mixed tabOk envq15Ok Tryz.func36 (bodySome (by kernel_rfl)) (by decide +kernel) annq15_ok decAq15_ok fnq15_ok fnq15_nat
--@ layout_within
noncomputable def envq28 : Env := []
theorem envq28Ok : EnvOk Tryz.prog envq28 := EnvOk.nil
noncomputable def bq28 : Code := Tryz.f140.body.getD .skip
noncomputable def Lq28_n0 : Code := codeAt [1,0] bq28
noncomputable def annLq28_n0 : Ann := .none
theorem annLq28_n0_ok : AnnOk Tryz.prog 15 Lq28_n0 annLq28_n0 := (annOk_none _ _ _)
abbrev Iq28_n0 := (Int) × (Int) × (Int)
abbrev Yq28_n0 := (Bool)
def Sq28_n0 : Iq28_n0 → St := fun (t0,t1,t2) => { env := [(0,.int .i64 t0),(1,.int .i64 t1),(2,.int .i64 t2)],stk := [[]],H := [],blk := 573440 }
def decPq28_n0 (s : St) : Option {x : Iq28_n0 // s = Sq28_n0 x} := match s with
  | { env := [(0,.int .i64 t0),(1,.int .i64 t1),(2,.int .i64 t2)],stk := [[]],H := [],blk := 573440 } => some ⟨(t0,t1,t2),rfl⟩
  | _ => none
def decq28_n0 (s : St) : Option Iq28_n0 := pk (decPq28_n0 s)
theorem decq28_n0_ok (s : St) (x : Iq28_n0) (h : decq28_n0 s = some x) : s = Sq28_n0 x := pk_ok (o := decPq28_n0 s) h
def outq28_n0 : Iq28_n0 → (Ex → St → Ans) → Yq28_n0 → Ans := fun (t0,t1,t2) K => fun t6_y => K (Ex.norm) { env := [(6,.bool t6_y)],stk := [[]],H := [],blk := 573440 }
def nodeq28_n0 {β : Type} : Iq28_n0 → (Yq28_n0 → Option β) → Option β := fun (t0,t1,t2) exit => (bif decide (t0 ≥ t1) then (exit (decide (t0 ≤ t2))) else (exit (false)))
def nodeDq28_n0 (i : Iq28_n0) : Option Yq28_n0 := nodeq28_n0 i some
theorem nodeq28_n0_nat (i : Iq28_n0) (k : Yq28_n0 → Ans) : nodeq28_n0 i k = bindO (nodeDq28_n0 i) k := by
  obtain ⟨t0,t1,t2⟩ := i
  simp only [nodeDq28_n0,nodeq28_n0,bindO_cond,bindO_assoc,bindO_none,bindO_pure,bindO_elim,bindO_unP,bindO_empty]
theorem nodeq28_n0_ok (i : Iq28_n0) (K : Ex → St → Ans) : codeI Tryz.tab envq28 noHint (codeD Tryz.tab envq28 noHint 0 64) 70 15 annLq28_n0 Lq28_n0 (weakP 0 (exk [6] [6] []) K) (Sq28_n0 i) = nodeq28_n0 i (outq28_n0 i K) := by kernel_rfl
theorem GNq28_n0_ok : CSum Tryz.prog 15 Lq28_n0 (sumN decq28_n0 nodeDq28_n0 outq28_n0) := csum_node mixed tabOk envq28Ok 0 (exk [6] [6] []) annLq28_n0_ok decq28_n0_ok nodeq28_n0_ok nodeq28_n0_nat
noncomputable def Gq28_n0 : (Ex → St → Ans) → St → Ans := (sumN decq28_n0 nodeDq28_n0 outq28_n0)
theorem Gq28_n0_ok : CSum Tryz.prog 15 Lq28_n0 Gq28_n0 := GNq28_n0_ok
noncomputable def annq28 : Ann := (.seq .none (.seq (.cut 0 [0,1,2] Gq28_n0) .none))
theorem annq28_ok : AnnOk Tryz.prog 15 bq28 annq28 := ⟨(annOk_none _ _ _),⟨Gq28_n0_ok,(annOk_none _ _ _)⟩⟩
abbrev Aq28 := (Int) × (Int) × (Int)
abbrev Yq28 := (Bool)
def fnq28 {β : Type} : Aq28 → (Yq28 → Option β) → Option β := fun (a0,a1,a2) exit => (bindO (nodeDq28_n0 (a0,a1,a2)) fun t6 => (exit (t6)))
def fnDq28 (a : Aq28) : Option Yq28 := fnq28 a some
theorem fnq28_nat (a : Aq28) (k : Yq28 → Ans) : fnq28 a k = bindO (fnDq28 a) k := by
  obtain ⟨a0,a1,a2⟩ := a
  simp only [fnDq28,fnq28,bindO_cond,bindO_assoc,bindO_none,bindO_pure,bindO_elim,bindO_unP,bindO_empty]
def argsq28 : Aq28 → List AV := fun (a0,a1,a2) => [.int .i64 a0,.int .i64 a1,.int .i64 a2]
def decPAq28 (l : List AV) : Option {a : Aq28 // l = argsq28 a} := match l with
  | [.int .i64 a0,.int .i64 a1,.int .i64 a2] => some ⟨(a0,a1,a2),rfl⟩
  | _ => none
def decAq28 (l : List AV) : Option Aq28 := pk (decPAq28 l)
theorem decAq28_ok (l : List AV) (a : Aq28) (h : decAq28 l = some a) : l = argsq28 a := pk_ok (o := decPAq28 l) h
def rendq28 : Aq28 → Yq28 → AV := fun (a0,a1,a2) => fun r_y => .bool r_y
theorem rendq28_ok : ∀ (a : Aq28) (y : Yq28),(rendq28 a y).closed1 = true := by
  rintro ⟨a0,a1,a2⟩ y <;> first | rfl | exact Empty.elim y
theorem fnq28_ok (a : Aq28) : fnE Tryz.tab envq28 noHint 0 70 140 Tryz.f140.ntmps Tryz.f140.results.toList annq28 bq28 (argsq28 a) [] (fun v _ => some (v,[])) = fnq28 a (fun y => some (rendq28 a y,[])) := by kernel_rfl
def vFq28 (a : Aq28) (K : AV → Ans) : Ans := bindO (fnDq28 a) fun y => K (rendq28 a y)
def Fq28 : List AV → (AV → Ans) → Ans := fun l K => bindO (decAq28 l) fun a => vFq28 a K
theorem Fq28_ok : PureOk Tryz.prog 140 Fq28 := pure_mkD (hint := noHint) (d := 0) (n := 70) mixed tabOk envq28Ok Tryz.func140 (bodySome (by kernel_rfl)) (by decide +kernel) annq28_ok decAq28_ok fnq28_ok fnq28_nat rendq28_ok
--@ layout_Check
noncomputable def envq24 : Env := [(140,.pure Fq28)]
theorem envq24Ok : EnvOk Tryz.prog envq24 := EnvOk.cons Fq28_ok (EnvOk.nil)
noncomputable def bq24 : Code := Tryz.f68.body.getD .skip
noncomputable def Lq24_n0 : Code := codeAt [1,0,0] bq24
noncomputable def annLq24_n0 : Ann := .none
theorem annLq24_n0_ok : AnnOk Tryz.prog 19 Lq24_n0 annLq24_n0 := (annOk_none _ _ _)
abbrev Iq24_n0 := (Int) × (Int) × (Int)
abbrev Yq24_n0 := (Bool)
def Sq24_n0 : Iq24_n0 → St := fun (o0_0,o0_1,o0_2) => { env := [(1,.ptr 0 0)],stk := [[]],H := [.cells [.int .i64 o0_0,.int .i64 o0_1,.int .i64 o0_2]],blk := 278528 }
def decPq24_n0 (s : St) : Option {x : Iq24_n0 // s = Sq24_n0 x} := match s with
  | { env := [(1,.ptr 0 0)],stk := [[]],H := [.cells [.int .i64 o0_0,.int .i64 o0_1,.int .i64 o0_2]],blk := 278528 } => some ⟨(o0_0,o0_1,o0_2),rfl⟩
  | _ => none
def decq24_n0 (s : St) : Option Iq24_n0 := pk (decPq24_n0 s)
theorem decq24_n0_ok (s : St) (x : Iq24_n0) (h : decq24_n0 s = some x) : s = Sq24_n0 x := pk_ok (o := decPq24_n0 s) h
def outq24_n0 : Iq24_n0 → (Ex → St → Ans) → Yq24_n0 → Ans := fun (o0_0,o0_1,o0_2) K => fun t18_y => K (Ex.norm) { env := [(18,.bool t18_y)],stk := [[]],H := [],blk := 278528 }
def nodeq24_n0 {β : Type} : Iq24_n0 → (Yq24_n0 → Option β) → Option β := fun (o0_0,o0_1,o0_2) exit => (bindO (fnDq28 (o0_0,(1 : Int),(24 : Int))) fun r => (bif !r then (exit (true)) else (bindO (fnDq28 (o0_1,(1 : Int),(8 : Int))) fun r_2 => (bif !r_2 then (exit (true)) else (bindO (fnDq28 (o0_2,(24 : Int),(200 : Int))) fun r_3 => (exit (!r_3)))))))
def nodeDq24_n0 (i : Iq24_n0) : Option Yq24_n0 := nodeq24_n0 i some
theorem nodeq24_n0_nat (i : Iq24_n0) (k : Yq24_n0 → Ans) : nodeq24_n0 i k = bindO (nodeDq24_n0 i) k := by
  obtain ⟨o0_0,o0_1,o0_2⟩ := i
  simp only [nodeDq24_n0,nodeq24_n0,bindO_cond,bindO_assoc,bindO_none,bindO_pure,bindO_elim,bindO_unP,bindO_empty]
theorem nodeq24_n0_ok (i : Iq24_n0) (K : Ex → St → Ans) : codeI Tryz.tab envq24 noHint (codeD Tryz.tab envq24 noHint 0 64) 70 19 annLq24_n0 Lq24_n0 (weakP 0 (exk [18] [2] []) K) (Sq24_n0 i) = nodeq24_n0 i (outq24_n0 i K) := by kernel_rfl
theorem GNq24_n0_ok : CSum Tryz.prog 19 Lq24_n0 (sumN decq24_n0 nodeDq24_n0 outq24_n0) := csum_node mixed tabOk envq24Ok 0 (exk [18] [2] []) annLq24_n0_ok decq24_n0_ok nodeq24_n0_ok nodeq24_n0_nat
noncomputable def Gq24_n0 : (Ex → St → Ans) → St → Ans := (sumN decq24_n0 nodeDq24_n0 outq24_n0)
theorem Gq24_n0_ok : CSum Tryz.prog 19 Lq24_n0 Gq24_n0 := GNq24_n0_ok
noncomputable def annq24 : Ann := (.seq .none (.seq (.seq (.cut 0 [1] Gq24_n0) .none) .none))
theorem annq24_ok : AnnOk Tryz.prog 19 bq24 annq24 := ⟨(annOk_none _ _ _),⟨⟨Gq24_n0_ok,(annOk_none _ _ _)⟩,(annOk_none _ _ _)⟩⟩
abbrev Aq24 := (Int) × (Int) × (Int)
abbrev Yq24 := (Int)
def fnq24 {β : Type} : Aq24 → (Yq24 → Option β) → Option β := fun (a0_0,a0_1,a0_2) exit => (bindO (nodeDq24_n0 (a0_0,a0_1,a0_2)) fun t18 => (bif t18 then (exit ((3 : Int))) else (exit ((0 : Int)))))
def fnDq24 (a : Aq24) : Option Yq24 := fnq24 a some
theorem fnq24_nat (a : Aq24) (k : Yq24 → Ans) : fnq24 a k = bindO (fnDq24 a) k := by
  obtain ⟨a0_0,a0_1,a0_2⟩ := a
  simp only [fnDq24,fnq24,bindO_cond,bindO_assoc,bindO_none,bindO_pure,bindO_elim,bindO_unP,bindO_empty]
def argsq24 : Aq24 → List AV := fun (a0_0,a0_1,a0_2) => [.agg [.int .i64 a0_0,.int .i64 a0_1,.int .i64 a0_2]]
def decPAq24 (l : List AV) : Option {a : Aq24 // l = argsq24 a} := match l with
  | [.agg [.int .i64 a0_0,.int .i64 a0_1,.int .i64 a0_2]] => some ⟨(a0_0,a0_1,a0_2),rfl⟩
  | _ => none
def decAq24 (l : List AV) : Option Aq24 := pk (decPAq24 l)
theorem decAq24_ok (l : List AV) (a : Aq24) (h : decAq24 l = some a) : l = argsq24 a := pk_ok (o := decPAq24 l) h
def rendq24 : Aq24 → Yq24 → AV := fun (a0_0,a0_1,a0_2) => fun r_y => .int .i64 r_y
theorem rendq24_ok : ∀ (a : Aq24) (y : Yq24),(rendq24 a y).closed1 = true := by
  rintro ⟨a0_0,a0_1,a0_2⟩ y <;> first | rfl | exact Empty.elim y
theorem fnq24_ok (a : Aq24) : fnE Tryz.tab envq24 noHint 0 70 68 Tryz.f68.ntmps Tryz.f68.results.toList annq24 bq24 (argsq24 a) [] (fun v _ => some (v,[])) = fnq24 a (fun y => some (rendq24 a y,[])) := by kernel_rfl
def vFq24 (a : Aq24) (K : AV → Ans) : Ans := bindO (fnDq24 a) fun y => K (rendq24 a y)
def Fq24 : List AV → (AV → Ans) → Ans := fun l K => bindO (decAq24 l) fun a => vFq24 a K
theorem Fq24_ok : PureOk Tryz.prog 68 Fq24 := pure_mkD (hint := noHint) (d := 0) (n := 70) mixed tabOk envq24Ok Tryz.func68 (bodySome (by kernel_rfl)) (by decide +kernel) annq24_ok decAq24_ok fnq24_ok fnq24_nat rendq24_ok
--@ layout_of
noncomputable def envq27 : Env := [(68,.pure Fq24)]
theorem envq27Ok : EnvOk Tryz.prog envq27 := EnvOk.cons Fq24_ok (EnvOk.nil)
noncomputable def bq27 : Code := Tryz.f117.body.getD .skip
noncomputable def annq27 : Ann := .none
theorem annq27_ok : AnnOk Tryz.prog 46 bq27 annq27 := (annOk_none _ _ _)
abbrev Aq27 := (Int) × (Int) × (Int)
abbrev Yq27 := (Int) × (Int) × (Int) × (Int) × (Int) × (Int)
def fnq27 {β : Type} : Aq27 → (Yq27 → Option β) → Option β := fun (a0_0,a0_1,a0_2) exit => (bindO (fnDq24 (a0_0,a0_1,a0_2)) fun r => (bif r != (0 : Int) then (exit ((0 : Int),(0 : Int),(0 : Int),(0 : Int),(0 : Int),(0 : Int))) else (exit ((1 : Int),(2 : Int),IntKind.wrap .i64 ((2 : Int) + IntKind.wrap .i64 (Int.tdiv (IntKind.wrap .i64 (IntKind.wrap .i64 (a0_0 + (2 : Int)) - (1 : Int))) (2 : Int))),IntKind.wrap .i64 (IntKind.wrap .i64 ((2 : Int) + IntKind.wrap .i64 (Int.tdiv (IntKind.wrap .i64 (IntKind.wrap .i64 (a0_0 + (2 : Int)) - (1 : Int))) (2 : Int))) + IntKind.wrap .i64 (a0_0 * (2 : Int))),IntKind.wrap .i64 (IntKind.wrap .i64 (IntKind.wrap .i64 ((2 : Int) + IntKind.wrap .i64 (Int.tdiv (IntKind.wrap .i64 (IntKind.wrap .i64 (a0_0 + (2 : Int)) - (1 : Int))) (2 : Int))) + IntKind.wrap .i64 (a0_0 * (2 : Int))) + IntKind.wrap .i64 (a0_1 * (5 : Int))),IntKind.wrap .i64 (IntKind.wrap .i64 (IntKind.wrap .i64 (IntKind.wrap .i64 ((2 : Int) + IntKind.wrap .i64 (Int.tdiv (IntKind.wrap .i64 (IntKind.wrap .i64 (a0_0 + (2 : Int)) - (1 : Int))) (2 : Int))) + IntKind.wrap .i64 (a0_0 * (2 : Int))) + IntKind.wrap .i64 (a0_1 * (5 : Int))) + a0_2)))))
def fnDq27 (a : Aq27) : Option Yq27 := fnq27 a some
theorem fnq27_nat (a : Aq27) (k : Yq27 → Ans) : fnq27 a k = bindO (fnDq27 a) k := by
  obtain ⟨a0_0,a0_1,a0_2⟩ := a
  simp only [fnDq27,fnq27,bindO_cond,bindO_assoc,bindO_none,bindO_pure,bindO_elim,bindO_unP,bindO_empty]
def argsq27 : Aq27 → List AV := fun (a0_0,a0_1,a0_2) => [.agg [.int .i64 a0_0,.int .i64 a0_1,.int .i64 a0_2]]
def decPAq27 (l : List AV) : Option {a : Aq27 // l = argsq27 a} := match l with
  | [.agg [.int .i64 a0_0,.int .i64 a0_1,.int .i64 a0_2]] => some ⟨(a0_0,a0_1,a0_2),rfl⟩
  | _ => none
def decAq27 (l : List AV) : Option Aq27 := pk (decPAq27 l)
theorem decAq27_ok (l : List AV) (a : Aq27) (h : decAq27 l = some a) : l = argsq27 a := pk_ok (o := decPAq27 l) h
def rendq27 : Aq27 → Yq27 → AV := fun (a0_0,a0_1,a0_2) => unP fun r_1_y => unP fun r_2_y => unP fun r_3_y => unP fun r_4_y => unP fun r_5_y r_6_y => .agg [.int .i64 (0),.int .i64 r_1_y,.int .i64 r_2_y,.int .i64 r_3_y,.int .i64 r_4_y,.int .i64 r_5_y,.int .i64 r_6_y]
theorem rendq27_ok : ∀ (a : Aq27) (y : Yq27),(rendq27 a y).closed1 = true := by
  rintro ⟨a0_0,a0_1,a0_2⟩ y <;> first | rfl | exact Empty.elim y
theorem fnq27_ok (a : Aq27) : fnE Tryz.tab envq27 noHint 0 70 117 Tryz.f117.ntmps Tryz.f117.results.toList annq27 bq27 (argsq27 a) [] (fun v _ => some (v,[])) = fnq27 a (fun y => some (rendq27 a y,[])) := by kernel_rfl
def vFq27 (a : Aq27) (K : AV → Ans) : Ans := bindO (fnDq27 a) fun y => K (rendq27 a y)
def Fq27 : List AV → (AV → Ans) → Ans := fun l K => bindO (decAq27 l) fun a => vFq27 a K
theorem Fq27_ok : PureOk Tryz.prog 117 Fq27 := pure_mkD (hint := noHint) (d := 0) (n := 70) mixed tabOk envq27Ok Tryz.func117 (bodySome (by kernel_rfl)) (by decide +kernel) annq27_ok decAq27_ok fnq27_ok fnq27_nat rendq27_ok
--@ layout_Log
noncomputable def envq25 : Env := [(117,.pure Fq27)]
theorem envq25Ok : EnvOk Tryz.prog envq25 := EnvOk.cons Fq27_ok (EnvOk.nil)
noncomputable def bq25 : Code := Tryz.f37.body.getD .skip
noncomputable def annq25 : Ann := .none
theorem annq25_ok : AnnOk Tryz.prog 6 bq25 annq25 := (annOk_none _ _ _)
abbrev Aq25 := (Int) × (Int) × (Int)
abbrev Yq25 := (Int)
def fnq25 {β : Type} : Aq25 → (Yq25 → Option β) → Option β := fun (a0_0,a0_1,a0_2) exit => (bindO (fnDq27 (a0_0,a0_1,a0_2)) (unP fun r_1 => unP fun r_2 => unP fun r_3 => unP fun r_4 => unP fun r_5 r_6 => (exit (r_5))))
def fnDq25 (a : Aq25) : Option Yq25 := fnq25 a some
theorem fnq25_nat (a : Aq25) (k : Yq25 → Ans) : fnq25 a k = bindO (fnDq25 a) k := by
  obtain ⟨a0_0,a0_1,a0_2⟩ := a
  simp only [fnDq25,fnq25,bindO_cond,bindO_assoc,bindO_none,bindO_pure,bindO_elim,bindO_unP,bindO_empty]
def argsq25 : Aq25 → List AV := fun (a0_0,a0_1,a0_2) => [.agg [.int .i64 a0_0,.int .i64 a0_1,.int .i64 a0_2]]
def decPAq25 (l : List AV) : Option {a : Aq25 // l = argsq25 a} := match l with
  | [.agg [.int .i64 a0_0,.int .i64 a0_1,.int .i64 a0_2]] => some ⟨(a0_0,a0_1,a0_2),rfl⟩
  | _ => none
def decAq25 (l : List AV) : Option Aq25 := pk (decPAq25 l)
theorem decAq25_ok (l : List AV) (a : Aq25) (h : decAq25 l = some a) : l = argsq25 a := pk_ok (o := decPAq25 l) h
def rendq25 : Aq25 → Yq25 → AV := fun (a0_0,a0_1,a0_2) => fun r_y => .int .i64 r_y
theorem rendq25_ok : ∀ (a : Aq25) (y : Yq25),(rendq25 a y).closed1 = true := by
  rintro ⟨a0_0,a0_1,a0_2⟩ y <;> first | rfl | exact Empty.elim y
theorem fnq25_ok (a : Aq25) : fnE Tryz.tab envq25 noHint 0 70 37 Tryz.f37.ntmps Tryz.f37.results.toList annq25 bq25 (argsq25 a) [] (fun v _ => some (v,[])) = fnq25 a (fun y => some (rendq25 a y,[])) := by kernel_rfl
def vFq25 (a : Aq25) (K : AV → Ans) : Ans := bindO (fnDq25 a) fun y => K (rendq25 a y)
def Fq25 : List AV → (AV → Ans) → Ans := fun l K => bindO (decAq25 l) fun a => vFq25 a K
theorem Fq25_ok : PureOk Tryz.prog 37 Fq25 := pure_mkD (hint := noHint) (d := 0) (n := 70) mixed tabOk envq25Ok Tryz.func37 (bodySome (by kernel_rfl)) (by decide +kernel) annq25_ok decAq25_ok fnq25_ok fnq25_nat rendq25_ok
--@ shadow_Shadow_string_Get
noncomputable def envq63 : Env := []
theorem envq63Ok : EnvOk Tryz.prog envq63 := EnvOk.nil
noncomputable def bq63 : Code := Tryz.f113.body.getD .skip
noncomputable def annq63 : Ann := .none
theorem annq63_ok : AnnOk Tryz.prog 36 bq63 annq63 := (annOk_none _ _ _)
abbrev Aq63 := (Int) × (List (Int × List UInt8)) × (List (Int × List UInt8))
abbrev Yq63 := (List UInt8) × (Bool)
def fnq63 {β : Type} : Aq63 → (Yq63 → Option β) → Option β := fun (a1,o1,o2) exit => (bif mhas a1 o2 then (exit (mget a1 [] o2,true)) else (exit (mget a1 [] o1,mhas a1 o1)))
def fnDq63 (a : Aq63) : Option Yq63 := fnq63 a some
theorem fnq63_nat (a : Aq63) (k : Yq63 → Ans) : fnq63 a k = bindO (fnDq63 a) k := by
  obtain ⟨a1,o1,o2⟩ := a
  simp only [fnDq63,fnq63,bindO_cond,bindO_assoc,bindO_none,bindO_pure,bindO_elim,bindO_unP,bindO_empty]
def argsq63 : Aq63 → List AV × List AE.Obj := fun (a1,o1,o2) => ([.ptr 0 0,.int .i64 a1],[.cells [.map 1,.map 2],.mp .i64 .str o1,.mp .i64 .str o2])
def decPAq63 (l : List AV) (H : List AE.Obj) : Option {a : Aq63 // (l,H) = argsq63 a} := match l,H with
  | [.ptr 0 0,.int .i64 a1],[.cells [.map 1,.map 2],.mp .i64 .str o1,.mp .i64 .str o2] => some ⟨(a1,o1,o2),rfl⟩
  | _,_ => none
def decAq63 (l : List AV) (H : List AE.Obj) : Option Aq63 := pk (decPAq63 l H)
theorem decAq63_ok (l : List AV) (H : List AE.Obj) (a : Aq63) (h : decAq63 l H = some a) : (l,H) = argsq63 a := pk_ok (o := decPAq63 l H) h
def outq63 : Aq63 → (AV → List AE.Obj → Ans) → Yq63 → Ans := fun (a1,o1,o2) K => unP fun r_0_y r_1_y => K (.tup [.str r_0_y,.bool r_1_y]) [.cells [.map 1,.map 2],.mp .i64 .str o1,.mp .i64 .str o2]
theorem fnq63_ok (a : Aq63) (K : AV → List AE.Obj → Ans) : fnE Tryz.tab envq63 noHint 0 70 113 Tryz.f113.ntmps Tryz.f113.results.toList annq63 bq63 (argsq63 a).1 (argsq63 a).2 K = fnq63 a (outq63 a K) := by kernel_rfl
def vFq63 (a : Aq63) (K : AV → List AE.Obj → Ans) : Ans := bindO (fnDq63 a) fun y => outq63 a K y
def Fq63 : List AV → List AE.Obj → (AV → List AE.Obj → Ans) → Ans := fun l H K => bindO (decAq63 l H) fun a => vFq63 a K
theorem Fq63_ok : FuncOk Tryz.prog 113 Fq63 := func_mkD (hint := noHint) (d := 0) (n := 70) mixed tabOk envq63Ok Tryz.func113 (bodySome (by kernel_rfl)) (by decide +kernel) annq63_ok decAq63_ok fnq63_ok fnq63_nat
--@ slices_Index_int_int
noncomputable def envq73 : Env := []
theorem envq73Ok : EnvOk Tryz.prog envq73 := EnvOk.nil
noncomputable def bq73 : Code := Tryz.f241.body.getD .skip
noncomputable def Lq73_n0 : Code := codeAt [1,0,1,0,0] bq73
noncomputable def annLq73_n0 : Ann := .at 0 [0,1,7,8] (.loop .none)
theorem annLq73_n0_ok : AnnOk Tryz.prog 19 (.loop Lq73_n0) annLq73_n0 := annOk_at (annOk_none _ _ _)
abbrev Iq73_n0 := (List Int) × (Int) × (Int)
abbrev Yq73_n0 := ((Int)) ⊕ (Unit)
abbrev Vq73_n0 := (Int)
def Sq73_n0 : Iq73_n0 → Vq73_n0 → St := fun (t0,t1,t7) t8 => { env := [(0,.ro (.int .i64) t0),(1,.int .i64 t1),(7,.int .i64 t7),(8,.int .i64 t8)],stk := [[]],H := [],blk := 987136 }
def decPq73_n0 (s : St) : Option {x : Iq73_n0 × Vq73_n0 // s = Sq73_n0 x.1 x.2} := match s with
  | { env := [(0,.ro (.int .i64) t0),(1,.int .i64 t1),(7,.int .i64 t7),(8,.int .i64 t8)],stk := [[]],H := [],blk := 987136 } => some ⟨((t0,t1,t7),t8),rfl⟩
  | _ => none
def decq73_n0 (s : St) : Option (Iq73_n0 × Vq73_n0) := pk (decPq73_n0 s)
theorem decq73_n0_ok (s : St) (x : Iq73_n0 × Vq73_n0) (h : decq73_n0 s = some x) : s = Sq73_n0 x.1 x.2 := pk_ok (o := decPq73_n0 s) h
def outq73_n0 : Iq73_n0 → (Ex → St → Ans) → Yq73_n0 → Ans := fun (t0,t1,t7) K => (Sum.elim (fun t4_y => K (Ex.ret) { env := [(4,.int .i64 t4_y)],stk := [[]],H := [],blk := 987137 }) (fun _ => K (Ex.exit 0) { env := [],stk := [[]],H := [],blk := 987136 }))
def stepq73_n0 {β : Type} : Iq73_n0 → Vq73_n0 → (Vq73_n0 → Option β) → (Yq73_n0 → Option β) → Option β := fun (t0,t1,t7) t8 next exit => (bif decide (t8 < t7) then (bindO (nth t0 t8) fun x => (bif t1 == x then (exit (Sum.inl (t8))) else (next (IntKind.wrap .i64 (t8 + (1 : Int)))))) else (exit (Sum.inr ())))
def stepDq73_n0 (i : Iq73_n0) (v : Vq73_n0) : Option (Vq73_n0 ⊕ Yq73_n0) := stepq73_n0 i v (fun v => some (.inl v)) (fun y => some (.inr y))
theorem stepq73_n0_nat (i : Iq73_n0) (v : Vq73_n0) (next : Vq73_n0 → Ans) (exit : Yq73_n0 → Ans) : stepq73_n0 i v next exit = bindO (stepDq73_n0 i v) (Sum.elim next exit) := by
  obtain ⟨t0,t1,t7⟩ := i
  obtain z := v
  simp only [stepDq73_n0,stepq73_n0,bindO_cond,bindO_assoc,bindO_none,bindO_pure,bindO_elim,bindO_unP,bindO_empty,Sum.elim_inl,Sum.elim_inr]
theorem stepq73_n0_ok (n : Nat) (i : Iq73_n0) (v : Vq73_n0) (K : Ex → St → Ans) : codeI Tryz.tab envq73 noHint (codeD Tryz.tab envq73 noHint 0 64) (n+1) 19 annLq73_n0 (.loop Lq73_n0) (weakP 0 (exk [] [4] [(0,[])]) K) (Sq73_n0 i v) = stepq73_n0 i v (fun v' => codeI Tryz.tab envq73 noHint (codeD Tryz.tab envq73 noHint 0 64) n 19 annLq73_n0 (.loop Lq73_n0) (weakP 0 (exk [] [4] [(0,[])]) K) (Sq73_n0 i v')) (fun y => outq73_n0 i K y) := by kernel_rfl
theorem GNq73_n0_ok : CSum Tryz.prog 19 (.loop Lq73_n0) (sumL decq73_n0 stepDq73_n0 outq73_n0) := csum_loop mixed tabOk envq73Ok 0 (exk [] [4] [(0,[])]) annLq73_n0_ok decq73_n0_ok stepq73_n0_ok stepq73_n0_nat
noncomputable def Gq73_n0 : (Ex → St → Ans) → St → Ans := (sumL decq73_n0 stepDq73_n0 outq73_n0)
theorem Gq73_n0_ok : CSum Tryz.prog 19 (.loop Lq73_n0) Gq73_n0 := GNq73_n0_ok
noncomputable def annq73 : Ann := (.seq .none (.seq (.seq .none (.block (.cut 0 [0,1,7,8] Gq73_n0))) .none))
theorem annq73_ok : AnnOk Tryz.prog 19 bq73 annq73 := ⟨(annOk_none _ _ _),⟨⟨(annOk_none _ _ _),Gq73_n0_ok⟩,(annOk_none _ _ _)⟩⟩
abbrev Aq73 := (List Int) × (Int)
abbrev Yq73 := (Int)
def fnq73 {β : Type} : Aq73 → (Yq73 → Option β) → Option β := fun (a0,a1) exit => (bindO (loopD (stepDq73_n0 (a0,a1,(↑(List.length a0) : Int))) FUEL ((0 : Int))) (Sum.elim (fun t4 => (exit (t4))) (fun _ => (exit ((-1 : Int))))))
def fnDq73 (a : Aq73) : Option Yq73 := fnq73 a some
theorem fnq73_nat (a : Aq73) (k : Yq73 → Ans) : fnq73 a k = bindO (fnDq73 a) k := by
  obtain ⟨a0,a1⟩ := a
  simp only [fnDq73,fnq73,bindO_cond,bindO_assoc,bindO_none,bindO_pure,bindO_elim,bindO_unP,bindO_empty]
def argsq73 : Aq73 → List AV := fun (a0,a1) => [.ro (.int .i64) a0,.int .i64 a1]
def decPAq73 (l : List AV) : Option {a : Aq73 // l = argsq73 a} := match l with
  | [.ro (.int .i64) a0,.int .i64 a1] => some ⟨(a0,a1),rfl⟩
  | _ => none
def decAq73 (l : List AV) : Option Aq73 := pk (decPAq73 l)
theorem decAq73_ok (l : List AV) (a : Aq73) (h : decAq73 l = some a) : l = argsq73 a := pk_ok (o := decPAq73 l) h
def rendq73 : Aq73 → Yq73 → AV := fun (a0,a1) => fun r_y => .int .i64 r_y
theorem rendq73_ok : ∀ (a : Aq73) (y : Yq73),(rendq73 a y).closed1 = true := by
  rintro ⟨a0,a1⟩ y <;> first | rfl | exact Empty.elim y
theorem fnq73_ok (a : Aq73) : fnE Tryz.tab envq73 noHint 0 70 241 Tryz.f241.ntmps Tryz.f241.results.toList annq73 bq73 (argsq73 a) [] (fun v _ => some (v,[])) = fnq73 a (fun y => some (rendq73 a y,[])) := by kernel_rfl
def vFq73 (a : Aq73) (K : AV → Ans) : Ans := bindO (fnDq73 a) fun y => K (rendq73 a y)
def Fq73 : List AV → (AV → Ans) → Ans := fun l K => bindO (decAq73 l) fun a => vFq73 a K
theorem Fq73_ok : PureOk Tryz.prog 241 Fq73 := pure_mkD (hint := noHint) (d := 0) (n := 70) mixed tabOk envq73Ok Tryz.func241 (bodySome (by kernel_rfl)) (by decide +kernel) annq73_ok decAq73_ok fnq73_ok fnq73_nat rendq73_ok
--@ slices_Contains_int_int
noncomputable def envq71 : Env := [(241,.pure Fq73)]
theorem envq71Ok : EnvOk Tryz.prog envq71 := EnvOk.cons Fq73_ok (EnvOk.nil)
noncomputable def bq71 : Code := Tryz.f218.body.getD .skip
noncomputable def annq71 : Ann := .none
theorem annq71_ok : AnnOk Tryz.prog 9 bq71 annq71 := (annOk_none _ _ _)
abbrev Aq71 := (List Int) × (Int)
abbrev Yq71 := (Bool)
def fnq71 {β : Type} : Aq71 → (Yq71 → Option β) → Option β := fun (a0,a1) exit => (bindO (fnDq73 (a0,a1)) fun r => (exit (decide (r ≥ (0 : Int)))))
def fnDq71 (a : Aq71) : Option Yq71 := fnq71 a some
theorem fnq71_nat (a : Aq71) (k : Yq71 → Ans) : fnq71 a k = bindO (fnDq71 a) k := by
  obtain ⟨a0,a1⟩ := a
  simp only [fnDq71,fnq71,bindO_cond,bindO_assoc,bindO_none,bindO_pure,bindO_elim,bindO_unP,bindO_empty]
def argsq71 : Aq71 → List AV := fun (a0,a1) => [.ro (.int .i64) a0,.int .i64 a1]
def decPAq71 (l : List AV) : Option {a : Aq71 // l = argsq71 a} := match l with
  | [.ro (.int .i64) a0,.int .i64 a1] => some ⟨(a0,a1),rfl⟩
  | _ => none
def decAq71 (l : List AV) : Option Aq71 := pk (decPAq71 l)
theorem decAq71_ok (l : List AV) (a : Aq71) (h : decAq71 l = some a) : l = argsq71 a := pk_ok (o := decPAq71 l) h
def rendq71 : Aq71 → Yq71 → AV := fun (a0,a1) => fun r_y => .bool r_y
theorem rendq71_ok : ∀ (a : Aq71) (y : Yq71),(rendq71 a y).closed1 = true := by
  rintro ⟨a0,a1⟩ y <;> first | rfl | exact Empty.elim y
theorem fnq71_ok (a : Aq71) : fnE Tryz.tab envq71 noHint 0 70 218 Tryz.f218.ntmps Tryz.f218.results.toList annq71 bq71 (argsq71 a) [] (fun v _ => some (v,[])) = fnq71 a (fun y => some (rendq71 a y,[])) := by kernel_rfl
def vFq71 (a : Aq71) (K : AV → Ans) : Ans := bindO (fnDq71 a) fun y => K (rendq71 a y)
def Fq71 : List AV → (AV → Ans) → Ans := fun l K => bindO (decAq71 l) fun a => vFq71 a K
theorem Fq71_ok : PureOk Tryz.prog 218 Fq71 := pure_mkD (hint := noHint) (d := 0) (n := 70) mixed tabOk envq71Ok Tryz.func218 (bodySome (by kernel_rfl)) (by decide +kernel) annq71_ok decAq71_ok fnq71_ok fnq71_nat rendq71_ok
--@ disk_Disk_call
noncomputable def envq10 : Env := [(218,.pure Fq71)]
theorem envq10Ok : EnvOk Tryz.prog envq10 := EnvOk.cons Fq71_ok (EnvOk.nil)
noncomputable def bq10 : Code := Tryz.f181.body.getD .skip
noncomputable def annq10 : Ann := .none
theorem annq10_ok : AnnOk Tryz.prog 41 bq10 annq10 := (annOk_none _ _ _)
abbrev Aq10 := (Int) × (Int) × (Bool) × (List (List UInt8)) × (List (Int × List UInt8)) × (List (Int × List UInt8)) × (List Int)
abbrev Yq10 := (Int) × (Bool) × (Int) × (Bool)
def fnq10 {β : Type} : Aq10 → (Yq10 → Option β) → Option β := fun (o0_3,o0_5,o0_6,o1,o2,o3,o4) exit => (bif o0_6 then (exit ((31 : Int),false,IntKind.wrap .i64 (o0_3 + (1 : Int)),o0_6)) else (bif IntKind.wrap .i64 (o0_3 + (1 : Int)) == o0_5 then (exit ((31 : Int),true,IntKind.wrap .i64 (o0_3 + (1 : Int)),true)) else (bindO (fnDq71 (o4,IntKind.wrap .i64 (o0_3 + (1 : Int)))) fun r => (bif r then (exit ((30 : Int),false,IntKind.wrap .i64 (o0_3 + (1 : Int)),o0_6)) else (exit ((0 : Int),false,IntKind.wrap .i64 (o0_3 + (1 : Int)),o0_6))))))
def fnDq10 (a : Aq10) : Option Yq10 := fnq10 a some
theorem fnq10_nat (a : Aq10) (k : Yq10 → Ans) : fnq10 a k = bindO (fnDq10 a) k := by
  obtain ⟨o0_3,o0_5,o0_6,o1,o2,o3,o4⟩ := a
  simp only [fnDq10,fnq10,bindO_cond,bindO_assoc,bindO_none,bindO_pure,bindO_elim,bindO_unP,bindO_empty]
def argsq10 : Aq10 → List AV × List AE.Obj := fun (o0_3,o0_5,o0_6,o1,o2,o3,o4) => ([.ptr 0 0],[.cells [.own 1,.map 2,.own 3,.int .i64 o0_3,.own 4,.int .i64 o0_5,.bool o0_6],.arr .str o1,.mp .i64 .str o2,.arr (.st (.pair (.int .i64) .str)) o3,.arr (.int .i64) o4])
def decPAq10 (l : List AV) (H : List AE.Obj) : Option {a : Aq10 // (l,H) = argsq10 a} := match l,H with
  | [.ptr 0 0],[.cells [.own 1,.map 2,.own 3,.int .i64 o0_3,.own 4,.int .i64 o0_5,.bool o0_6],.arr .str o1,.mp .i64 .str o2,.arr (.st (.pair (.int .i64) .str)) o3,.arr (.int .i64) o4] => some ⟨(o0_3,o0_5,o0_6,o1,o2,o3,o4),rfl⟩
  | _,_ => none
def decAq10 (l : List AV) (H : List AE.Obj) : Option Aq10 := pk (decPAq10 l H)
theorem decAq10_ok (l : List AV) (H : List AE.Obj) (a : Aq10) (h : decAq10 l H = some a) : (l,H) = argsq10 a := pk_ok (o := decPAq10 l H) h
def outq10 : Aq10 → (AV → List AE.Obj → Ans) → Yq10 → Ans := fun (o0_3,o0_5,o0_6,o1,o2,o3,o4) K => unP fun r_0_y => unP fun r_1_y => unP fun o0_3_y o0_6_y => K (.tup [.int .i64 r_0_y,.bool r_1_y]) [.cells [.own 1,.map 2,.own 3,.int .i64 o0_3_y,.own 4,.int .i64 o0_5,.bool o0_6_y],.arr .str o1,.mp .i64 .str o2,.arr (.st (.pair (.int .i64) .str)) o3,.arr (.int .i64) o4]
theorem fnq10_ok (a : Aq10) (K : AV → List AE.Obj → Ans) : fnE Tryz.tab envq10 noHint 0 70 181 Tryz.f181.ntmps Tryz.f181.results.toList annq10 bq10 (argsq10 a).1 (argsq10 a).2 K = fnq10 a (outq10 a K) := by kernel_rfl
def vFq10 (a : Aq10) (K : AV → List AE.Obj → Ans) : Ans := bindO (fnDq10 a) fun y => outq10 a K y
def Fq10 : List AV → List AE.Obj → (AV → List AE.Obj → Ans) → Ans := fun l H K => bindO (decAq10 l H) fun a => vFq10 a K
theorem Fq10_ok : FuncOk Tryz.prog 181 Fq10 := func_mkD (hint := noHint) (d := 0) (n := 70) mixed tabOk envq10Ok Tryz.func181 (bodySome (by kernel_rfl)) (by decide +kernel) annq10_ok decAq10_ok fnq10_ok fnq10_nat
end Go.Proofs.R7R
namespace Go.Proofs.R7R
open Go Go.AE
open Go.Proofs.R7 (tabOk mixed Flaw16_Begun9 Flaw16_Begun9_ok fnDlaw16_Begun9 sure9 Flaw20_works Flaw20_works_ok fnDlaw20_works Fstrings_Repeat_ok FBuilder_copyCheck_ok FBuilder_String_ok FBuilder_StringAgain_ok iter205_spec)
set_option maxRecDepth 100000
--@ disk_Disk_there
noncomputable def envq12 : Env := [(161,.func Fq8)]
theorem envq12Ok : EnvOk Tryz.prog envq12 := EnvOk.cons Fq8_ok (EnvOk.nil)
noncomputable def bq12 : Code := Tryz.f182.body.getD .skip
noncomputable def Lq12_n0 : Code := codeAt [1,0] bq12
noncomputable def annLq12_n0 : Ann := .none
theorem annLq12_n0_ok : AnnOk Tryz.prog 13 Lq12_n0 annLq12_n0 := (annOk_none _ _ _)
abbrev Iq12_n0 := (Int) × (Int) × (Int) × (Bool) × (List (List UInt8)) × (List (Int × List UInt8)) × (List (Int × List UInt8)) × (List Int)
abbrev Yq12_n0 := (Bool)
def Sq12_n0 : Iq12_n0 → St := fun (t1,o0_3,o0_5,o0_6,o1,o2,o3,o4) => { env := [(0,.ptr 0 0),(1,.int .i64 t1)],stk := [[(0,.ptr 0 0),(2,.map 2)]],H := [.cells [.own 1,.map 2,.own 3,.int .i64 o0_3,.own 4,.int .i64 o0_5,.bool o0_6],.arr .str o1,.mp .i64 .str o2,.arr (.st (.pair (.int .i64) .str)) o3,.arr (.int .i64) o4],blk := 745472 }
def decPq12_n0 (s : St) : Option {x : Iq12_n0 // s = Sq12_n0 x} := match s with
  | { env := [(0,.ptr 0 0),(1,.int .i64 t1)],stk := [[(0,.ptr 0 0),(2,.map 2)]],H := [.cells [.own 1,.map 2,.own 3,.int .i64 o0_3,.own 4,.int .i64 o0_5,.bool o0_6],.arr .str o1,.mp .i64 .str o2,.arr (.st (.pair (.int .i64) .str)) o3,.arr (.int .i64) o4],blk := 745472 } => some ⟨(t1,o0_3,o0_5,o0_6,o1,o2,o3,o4),rfl⟩
  | _ => none
def decq12_n0 (s : St) : Option Iq12_n0 := pk (decPq12_n0 s)
theorem decq12_n0_ok (s : St) (x : Iq12_n0) (h : decq12_n0 s = some x) : s = Sq12_n0 x := pk_ok (o := decPq12_n0 s) h
def outq12_n0 : Iq12_n0 → (Ex → St → Ans) → Yq12_n0 → Ans := fun (t1,o0_3,o0_5,o0_6,o1,o2,o3,o4) K => fun t4_y => K (Ex.norm) { env := [(4,.bool t4_y)],stk := [[(0,.ptr 0 0),(2,.map 2)]],H := [.cells [.own 1,.map 2,.own 3,.int .i64 o0_3,.own 4,.int .i64 o0_5,.bool o0_6],.arr .str o1,.mp .i64 .str o2,.arr (.st (.pair (.int .i64) .str)) o3,.arr (.int .i64) o4],blk := 745472 }
def nodeq12_n0 {β : Type} : Iq12_n0 → (Yq12_n0 → Option β) → Option β := fun (t1,o0_3,o0_5,o0_6,o1,o2,o3,o4) exit => (bif decide (t1 ≥ (0 : Int)) then (bindO (fnDq8 (o0_3,o0_5,o0_6,o1,o2,o3,o4)) fun r => (exit (decide (t1 < r)))) else (exit (false)))
def nodeDq12_n0 (i : Iq12_n0) : Option Yq12_n0 := nodeq12_n0 i some
theorem nodeq12_n0_nat (i : Iq12_n0) (k : Yq12_n0 → Ans) : nodeq12_n0 i k = bindO (nodeDq12_n0 i) k := by
  obtain ⟨t1,o0_3,o0_5,o0_6,o1,o2,o3,o4⟩ := i
  simp only [nodeDq12_n0,nodeq12_n0,bindO_cond,bindO_assoc,bindO_none,bindO_pure,bindO_elim,bindO_unP,bindO_empty]
theorem nodeq12_n0_ok (i : Iq12_n0) (K : Ex → St → Ans) : codeI Tryz.tab envq12 noHint (codeD Tryz.tab envq12 noHint 0 64) 70 13 annLq12_n0 Lq12_n0 (weakP 5 (exk [4] [4] []) K) (Sq12_n0 i) = nodeq12_n0 i (outq12_n0 i K) := by kernel_rfl
theorem GNq12_n0_ok : CSum Tryz.prog 13 Lq12_n0 (sumN decq12_n0 nodeDq12_n0 outq12_n0) := csum_node mixed tabOk envq12Ok 5 (exk [4] [4] []) annLq12_n0_ok decq12_n0_ok nodeq12_n0_ok nodeq12_n0_nat
noncomputable def Gq12_n0 : (Ex → St → Ans) → St → Ans := (sumN decq12_n0 nodeDq12_n0 outq12_n0)
theorem Gq12_n0_ok : CSum Tryz.prog 13 Lq12_n0 Gq12_n0 := GNq12_n0_ok
noncomputable def annq12 : Ann := (.seq .none (.seq (.cut 5 [0,1] Gq12_n0) .none))
theorem annq12_ok : AnnOk Tryz.prog 13 bq12 annq12 := ⟨(annOk_none _ _ _),⟨Gq12_n0_ok,(annOk_none _ _ _)⟩⟩
abbrev Aq12 := (Int) × (Int) × (Int) × (Bool) × (List (List UInt8)) × (List (Int × List UInt8)) × (List (Int × List UInt8)) × (List Int)
abbrev Yq12 := (Bool)
def fnq12 {β : Type} : Aq12 → (Yq12 → Option β) → Option β := fun (a1,o0_3,o0_5,o0_6,o1,o2,o3,o4) exit => (bindO (nodeDq12_n0 (a1,o0_3,o0_5,o0_6,o1,o2,o3,o4)) fun t4 => (exit (t4)))
def fnDq12 (a : Aq12) : Option Yq12 := fnq12 a some
theorem fnq12_nat (a : Aq12) (k : Yq12 → Ans) : fnq12 a k = bindO (fnDq12 a) k := by
  obtain ⟨a1,o0_3,o0_5,o0_6,o1,o2,o3,o4⟩ := a
  simp only [fnDq12,fnq12,bindO_cond,bindO_assoc,bindO_none,bindO_pure,bindO_elim,bindO_unP,bindO_empty]
def argsq12 : Aq12 → List AV × List AE.Obj := fun (a1,o0_3,o0_5,o0_6,o1,o2,o3,o4) => ([.ptr 0 0,.int .i64 a1],[.cells [.own 1,.map 2,.own 3,.int .i64 o0_3,.own 4,.int .i64 o0_5,.bool o0_6],.arr .str o1,.mp .i64 .str o2,.arr (.st (.pair (.int .i64) .str)) o3,.arr (.int .i64) o4])
def decPAq12 (l : List AV) (H : List AE.Obj) : Option {a : Aq12 // (l,H) = argsq12 a} := match l,H with
  | [.ptr 0 0,.int .i64 a1],[.cells [.own 1,.map 2,.own 3,.int .i64 o0_3,.own 4,.int .i64 o0_5,.bool o0_6],.arr .str o1,.mp .i64 .str o2,.arr (.st (.pair (.int .i64) .str)) o3,.arr (.int .i64) o4] => some ⟨(a1,o0_3,o0_5,o0_6,o1,o2,o3,o4),rfl⟩
  | _,_ => none
def decAq12 (l : List AV) (H : List AE.Obj) : Option Aq12 := pk (decPAq12 l H)
theorem decAq12_ok (l : List AV) (H : List AE.Obj) (a : Aq12) (h : decAq12 l H = some a) : (l,H) = argsq12 a := pk_ok (o := decPAq12 l H) h
def outq12 : Aq12 → (AV → List AE.Obj → Ans) → Yq12 → Ans := fun (a1,o0_3,o0_5,o0_6,o1,o2,o3,o4) K => fun r_y => K (.bool r_y) [.cells [.own 1,.map 2,.own 3,.int .i64 o0_3,.own 4,.int .i64 o0_5,.bool o0_6],.arr .str o1,.mp .i64 .str o2,.arr (.st (.pair (.int .i64) .str)) o3,.arr (.int .i64) o4]
theorem fnq12_ok (a : Aq12) (K : AV → List AE.Obj → Ans) : fnE Tryz.tab envq12 noHint 0 70 182 Tryz.f182.ntmps Tryz.f182.results.toList annq12 bq12 (argsq12 a).1 (argsq12 a).2 K = fnq12 a (outq12 a K) := by kernel_rfl
def vFq12 (a : Aq12) (K : AV → List AE.Obj → Ans) : Ans := bindO (fnDq12 a) fun y => outq12 a K y
def Fq12 : List AV → List AE.Obj → (AV → List AE.Obj → Ans) → Ans := fun l H K => bindO (decAq12 l H) fun a => vFq12 a K
theorem Fq12_ok : FuncOk Tryz.prog 182 Fq12 := func_mkD (hint := noHint) (d := 0) (n := 70) mixed tabOk envq12Ok Tryz.func182 (bodySome (by kernel_rfl)) (by decide +kernel) annq12_ok decAq12_ok fnq12_ok fnq12_nat
--@ disk_Disk_Read
noncomputable def envq7 : Env := [(181,.func Fq10),(182,.func Fq12)]
theorem envq7Ok : EnvOk Tryz.prog envq7 := EnvOk.cons Fq10_ok (EnvOk.cons Fq12_ok (EnvOk.nil))
noncomputable def bq7 : Code := Tryz.f114.body.getD .skip
noncomputable def annq7 : Ann := .none
theorem annq7_ok : AnnOk Tryz.prog 42 bq7 annq7 := (annOk_none _ _ _)
abbrev Aq7 := (Int) × (Int) × (Int) × (Bool) × (List (List UInt8)) × (List (Int × List UInt8)) × (List (Int × List UInt8)) × (List Int)
abbrev Yq7 := (List UInt8) × (Int) × (Int) × (Bool)
def fnq7 {β : Type} : Aq7 → (Yq7 → Option β) → Option β := fun (a1,o0_3,o0_5,o0_6,o1,o2,o3,o4) exit => (bindO (fnDq10 (o0_3,o0_5,o0_6,o1,o2,o3,o4)) (unP fun r_0 => unP fun r_1 => unP fun o0_3_2 o0_6_2 => (bif r_0 != (0 : Int) then (exit ([],r_0,o0_3_2,o0_6_2)) else (bindO (fnDq12 (a1,o0_3_2,o0_5,o0_6_2,o1,o2,o3,o4)) fun r => (bif !r then (exit ([],(3 : Int),o0_3_2,o0_6_2)) else (bif mhas a1 o2 then (exit (mget a1 [] o2,(0 : Int),o0_3_2,o0_6_2)) else (bif inR a1 (List.length o1) then (bindO (o1[Int.toNat a1]?) fun x => (exit (x,(0 : Int),o0_3_2,o0_6_2))) else none)))))))
def fnDq7 (a : Aq7) : Option Yq7 := fnq7 a some
theorem fnq7_nat (a : Aq7) (k : Yq7 → Ans) : fnq7 a k = bindO (fnDq7 a) k := by
  obtain ⟨a1,o0_3,o0_5,o0_6,o1,o2,o3,o4⟩ := a
  simp only [fnDq7,fnq7,bindO_cond,bindO_assoc,bindO_none,bindO_pure,bindO_elim,bindO_unP,bindO_empty]
def argsq7 : Aq7 → List AV × List AE.Obj := fun (a1,o0_3,o0_5,o0_6,o1,o2,o3,o4) => ([.ptr 0 0,.int .i64 a1],[.cells [.own 1,.map 2,.own 3,.int .i64 o0_3,.own 4,.int .i64 o0_5,.bool o0_6],.arr .str o1,.mp .i64 .str o2,.arr (.st (.pair (.int .i64) .str)) o3,.arr (.int .i64) o4])
def decPAq7 (l : List AV) (H : List AE.Obj) : Option {a : Aq7 // (l,H) = argsq7 a} := match l,H with
  | [.ptr 0 0,.int .i64 a1],[.cells [.own 1,.map 2,.own 3,.int .i64 o0_3,.own 4,.int .i64 o0_5,.bool o0_6],.arr .str o1,.mp .i64 .str o2,.arr (.st (.pair (.int .i64) .str)) o3,.arr (.int .i64) o4] => some ⟨(a1,o0_3,o0_5,o0_6,o1,o2,o3,o4),rfl⟩
  | _,_ => none
def decAq7 (l : List AV) (H : List AE.Obj) : Option Aq7 := pk (decPAq7 l H)
theorem decAq7_ok (l : List AV) (H : List AE.Obj) (a : Aq7) (h : decAq7 l H = some a) : (l,H) = argsq7 a := pk_ok (o := decPAq7 l H) h
def outq7 : Aq7 → (AV → List AE.Obj → Ans) → Yq7 → Ans := fun (a1,o0_3,o0_5,o0_6,o1,o2,o3,o4) K => unP fun r_0_y => unP fun r_1_y => unP fun o0_3_y o0_6_y => K (.tup [.str r_0_y,.int .i64 r_1_y]) [.cells [.own 1,.map 2,.own 3,.int .i64 o0_3_y,.own 4,.int .i64 o0_5,.bool o0_6_y],.arr .str o1,.mp .i64 .str o2,.arr (.st (.pair (.int .i64) .str)) o3,.arr (.int .i64) o4]
theorem fnq7_ok (a : Aq7) (K : AV → List AE.Obj → Ans) : fnE Tryz.tab envq7 noHint 0 70 114 Tryz.f114.ntmps Tryz.f114.results.toList annq7 bq7 (argsq7 a).1 (argsq7 a).2 K = fnq7 a (outq7 a K) := by kernel_rfl
def vFq7 (a : Aq7) (K : AV → List AE.Obj → Ans) : Ans := bindO (fnDq7 a) fun y => outq7 a K y
def Fq7 : List AV → List AE.Obj → (AV → List AE.Obj → Ans) → Ans := fun l H K => bindO (decAq7 l H) fun a => vFq7 a K
theorem Fq7_ok : FuncOk Tryz.prog 114 Fq7 := func_mkD (hint := noHint) (d := 0) (n := 70) mixed tabOk envq7Ok Tryz.func114 (bodySome (by kernel_rfl)) (by decide +kernel) annq7_ok decAq7_ok fnq7_ok fnq7_nat
--@ wal_Wal_Read
noncomputable def envq81 : Env := [(113,.func Fq63),(114,.func Fq7)]
theorem envq81Ok : EnvOk Tryz.prog envq81 := EnvOk.cons Fq63_ok (EnvOk.cons Fq7_ok (EnvOk.nil))
noncomputable def bq81 : Code := Tryz.f30.body.getD .skip
noncomputable def annq81 : Ann := .none
theorem annq81_ok : AnnOk Tryz.prog 29 bq81 annq81 := (annOk_none _ _ _)
abbrev Aq81 := (Int) × (Int) × (Int) × (Int) × (Int) × (Int) × (Int) × (Bool) × (Bool) × (Int) × (Int) × (Bool) × (Int) × (Int) × (Int) × (Int) × (List (List UInt8)) × (List (Int × List UInt8)) × (List (Int × List UInt8)) × (List Int) × (List (Int × List UInt8)) × (List (Int × List UInt8))
abbrev Yq81 := (List UInt8) × (Int) × (Int) × (Bool)
def fnq81 {β : Type} : Aq81 → (Yq81 → Option β) → Option β := fun (a1,o0_3,o0_4,o0_5,o0_6,o0_7,o0_8,o0_9,o0_10,o1_3,o1_5,o1_6,o2_1,o2_2,o3_1,o3_2,o5,o6,o7,o8,o9,o10) exit => (bindO (fnDq63 (a1,o9,o10)) (unP fun r_0 r_1 => (bif r_1 then (exit (r_0,(0 : Int),o1_3,o1_6)) else (bindO (fnDq7 (a1,o1_3,o1_5,o1_6,o5,o6,o7,o8)) (unP fun r_0_2 => unP fun r_1_2 => unP fun o0_3_2 o0_6_2 => (exit (r_0_2,r_1_2,o0_3_2,o0_6_2)))))))
def fnDq81 (a : Aq81) : Option Yq81 := fnq81 a some
theorem fnq81_nat (a : Aq81) (k : Yq81 → Ans) : fnq81 a k = bindO (fnDq81 a) k := by
  obtain ⟨a1,o0_3,o0_4,o0_5,o0_6,o0_7,o0_8,o0_9,o0_10,o1_3,o1_5,o1_6,o2_1,o2_2,o3_1,o3_2,o5,o6,o7,o8,o9,o10⟩ := a
  simp only [fnDq81,fnq81,bindO_cond,bindO_assoc,bindO_none,bindO_pure,bindO_elim,bindO_unP,bindO_empty]
def argsq81 : Aq81 → List AV × List AE.Obj := fun (a1,o0_3,o0_4,o0_5,o0_6,o0_7,o0_8,o0_9,o0_10,o1_3,o1_5,o1_6,o2_1,o2_2,o3_1,o3_2,o5,o6,o7,o8,o9,o10) => ([.ptr 0 0,.int .i64 a1],[.cells [.ptr 1 0,.ptr 2 0,.ptr 3 0,.int .i64 o0_3,.int .i64 o0_4,.int .i64 o0_5,.int .i64 o0_6,.int .i64 o0_7,.int .i64 o0_8,.bool o0_9,.bool o0_10,.ptr 4 0],.cells [.own 5,.map 6,.own 7,.int .i64 o1_3,.own 8,.int .i64 o1_5,.bool o1_6],.cells [.ptr 1 0,.int .i64 o2_1,.int .i64 o2_2],.cells [.ptr 1 0,.int .i64 o3_1,.int .i64 o3_2],.cells [.map 9,.map 10],.arr .str o5,.mp .i64 .str o6,.arr (.st (.pair (.int .i64) .str)) o7,.arr (.int .i64) o8,.mp .i64 .str o9,.mp .i64 .str o10])
def decPAq81 (l : List AV) (H : List AE.Obj) : Option {a : Aq81 // (l,H) = argsq81 a} := match l,H with
  | [.ptr 0 0,.int .i64 a1],[.cells [.ptr 1 0,.ptr 2 0,.ptr 3 0,.int .i64 o0_3,.int .i64 o0_4,.int .i64 o0_5,.int .i64 o0_6,.int .i64 o0_7,.int .i64 o0_8,.bool o0_9,.bool o0_10,.ptr 4 0],.cells [.own 5,.map 6,.own 7,.int .i64 o1_3,.own 8,.int .i64 o1_5,.bool o1_6],.cells [.ptr 1 0,.int .i64 o2_1,.int .i64 o2_2],.cells [.ptr 1 0,.int .i64 o3_1,.int .i64 o3_2],.cells [.map 9,.map 10],.arr .str o5,.mp .i64 .str o6,.arr (.st (.pair (.int .i64) .str)) o7,.arr (.int .i64) o8,.mp .i64 .str o9,.mp .i64 .str o10] => some ⟨(a1,o0_3,o0_4,o0_5,o0_6,o0_7,o0_8,o0_9,o0_10,o1_3,o1_5,o1_6,o2_1,o2_2,o3_1,o3_2,o5,o6,o7,o8,o9,o10),rfl⟩
  | _,_ => none
def decAq81 (l : List AV) (H : List AE.Obj) : Option Aq81 := pk (decPAq81 l H)
theorem decAq81_ok (l : List AV) (H : List AE.Obj) (a : Aq81) (h : decAq81 l H = some a) : (l,H) = argsq81 a := pk_ok (o := decPAq81 l H) h
def outq81 : Aq81 → (AV → List AE.Obj → Ans) → Yq81 → Ans := fun (a1,o0_3,o0_4,o0_5,o0_6,o0_7,o0_8,o0_9,o0_10,o1_3,o1_5,o1_6,o2_1,o2_2,o3_1,o3_2,o5,o6,o7,o8,o9,o10) K => unP fun r_0_y => unP fun r_1_y => unP fun o1_3_y o1_6_y => K (.tup [.str r_0_y,.int .i64 r_1_y]) [.cells [.ptr 1 0,.ptr 2 0,.ptr 3 0,.int .i64 o0_3,.int .i64 o0_4,.int .i64 o0_5,.int .i64 o0_6,.int .i64 o0_7,.int .i64 o0_8,.bool o0_9,.bool o0_10,.ptr 4 0],.cells [.own 5,.map 6,.own 7,.int .i64 o1_3_y,.own 8,.int .i64 o1_5,.bool o1_6_y],.cells [.ptr 1 0,.int .i64 o2_1,.int .i64 o2_2],.cells [.ptr 1 0,.int .i64 o3_1,.int .i64 o3_2],.cells [.map 9,.map 10],.arr .str o5,.mp .i64 .str o6,.arr (.st (.pair (.int .i64) .str)) o7,.arr (.int .i64) o8,.mp .i64 .str o9,.mp .i64 .str o10]
theorem fnq81_ok (a : Aq81) (K : AV → List AE.Obj → Ans) : fnE Tryz.tab envq81 noHint 0 70 30 Tryz.f30.ntmps Tryz.f30.results.toList annq81 bq81 (argsq81 a).1 (argsq81 a).2 K = fnq81 a (outq81 a K) := by kernel_rfl
def vFq81 (a : Aq81) (K : AV → List AE.Obj → Ans) : Ans := bindO (fnDq81 a) fun y => outq81 a K y
def Fq81 : List AV → List AE.Obj → (AV → List AE.Obj → Ans) → Ans := fun l H K => bindO (decAq81 l H) fun a => vFq81 a K
theorem Fq81_ok : FuncOk Tryz.prog 30 Fq81 := func_mkD (hint := noHint) (d := 0) (n := 70) mixed tabOk envq81Ok Tryz.func30 (bodySome (by kernel_rfl)) (by decide +kernel) annq81_ok decAq81_ok fnq81_ok fnq81_nat
--@ strings_Builder_WriteString
noncomputable def envq75 : Env := [(183,.func FBuilder_copyCheck)]
theorem envq75Ok : EnvOk Tryz.prog envq75 := EnvOk.cons FBuilder_copyCheck_ok (EnvOk.nil)
noncomputable def bq75 : Code := Tryz.f118.body.getD .skip
noncomputable def annq75 : Ann := .none
theorem annq75_ok : AnnOk Tryz.prog 19 bq75 annq75 := (annOk_none _ _ _)
abbrev Aq75 := (List UInt8) × (List Int)
abbrev Yq75 := (Int) × (List Int)
def fnq75 {β : Type} : Aq75 → (Yq75 → Option β) → Option β := fun (a1,o1) exit => (bindO (fnDBuilder_copyCheck (o1)) fun o1_2 => (bif Nat.ble ((List.length o1_2 + List.length (intsOf a1)) * (1 : Nat)) (140737488355328 : Nat) then (exit ((↑(List.length a1) : Int),o1_2 ++ intsOf a1)) else none))
def fnDq75 (a : Aq75) : Option Yq75 := fnq75 a some
theorem fnq75_nat (a : Aq75) (k : Yq75 → Ans) : fnq75 a k = bindO (fnDq75 a) k := by
  obtain ⟨a1,o1⟩ := a
  simp only [fnDq75,fnq75,bindO_cond,bindO_assoc,bindO_none,bindO_pure,bindO_elim,bindO_unP,bindO_empty]
def argsq75 : Aq75 → List AV × List AE.Obj := fun (a1,o1) => ([.ptr 0 0,.str a1],[.bcells [.own 1],.arr (.int .u8) o1])
def decPAq75 (l : List AV) (H : List AE.Obj) : Option {a : Aq75 // (l,H) = argsq75 a} := match l,H with
  | [.ptr 0 0,.str a1],[.bcells [.own 1],.arr (.int .u8) o1] => some ⟨(a1,o1),rfl⟩
  | _,_ => none
def decAq75 (l : List AV) (H : List AE.Obj) : Option Aq75 := pk (decPAq75 l H)
theorem decAq75_ok (l : List AV) (H : List AE.Obj) (a : Aq75) (h : decAq75 l H = some a) : (l,H) = argsq75 a := pk_ok (o := decPAq75 l H) h
def outq75 : Aq75 → (AV → List AE.Obj → Ans) → Yq75 → Ans := fun (a1,o1) K => unP fun r_0_y o1_y => K (.tup [.int .i64 r_0_y,.nili]) [.bcells [.own 1],.arr (.int .u8) o1_y]
theorem fnq75_ok (a : Aq75) (K : AV → List AE.Obj → Ans) : fnE Tryz.tab envq75 noHint 0 70 118 Tryz.f118.ntmps Tryz.f118.results.toList annq75 bq75 (argsq75 a).1 (argsq75 a).2 K = fnq75 a (outq75 a K) := by kernel_rfl
def vFq75 (a : Aq75) (K : AV → List AE.Obj → Ans) : Ans := bindO (fnDq75 a) fun y => outq75 a K y
def Fq75 : List AV → List AE.Obj → (AV → List AE.Obj → Ans) → Ans := fun l H K => bindO (decAq75 l H) fun a => vFq75 a K
theorem Fq75_ok : FuncOk Tryz.prog 118 Fq75 := func_mkD (hint := noHint) (d := 0) (n := 70) mixed tabOk envq75Ok Tryz.func118 (bodySome (by kernel_rfl)) (by decide +kernel) annq75_ok decAq75_ok fnq75_ok fnq75_nat
--@ extent_Load
noncomputable def envq14 : Env := [(119,.func FBuilder_String),(30,.func Fq81),(118,.func Fq75)]
theorem envq14Ok : EnvOk Tryz.prog envq14 := EnvOk.cons FBuilder_String_ok (EnvOk.cons Fq81_ok (EnvOk.cons Fq75_ok (EnvOk.nil)))
noncomputable def bq14 : Code := Tryz.f38.body.getD .skip
noncomputable def Lq14_n1 : Code := codeAt [1,1,1,0,1,0,0] bq14
noncomputable def annLq14_n1 : Ann := .at 11 [0,1,8,18,19] (.loop .none)
theorem annLq14_n1_ok : AnnOk Tryz.prog 37 (.loop Lq14_n1) annLq14_n1 := annOk_at (annOk_none _ _ _)
abbrev Iq14_n1 := (Int) × (Int) × (Int) × (Int) × (Int) × (Int) × (Int) × (Int) × (Bool) × (Bool) × (Int) × (Int) × (Int) × (Int) × (Int) × (List (List UInt8)) × (List (Int × List UInt8)) × (List (Int × List UInt8)) × (List Int) × (List (Int × List UInt8)) × (List (Int × List UInt8))
abbrev Yq14_n1 := ((Int) × (Int) × (Bool)) ⊕ ((Int) × (Bool) × (List Int))
abbrev Vq14_n1 := (Int) × (Int) × (Bool) × (List Int)
def Sq14_n1 : Iq14_n1 → Vq14_n1 → St := fun (t1,t18,o0_3,o0_4,o0_5,o0_6,o0_7,o0_8,o0_9,o0_10,o1_5,o2_1,o2_2,o3_1,o3_2,o5,o6,o7,o8,o9,o10) (t19,o1_3,o1_6,o12) => { env := [(0,.ptr 0 0),(1,.int .i64 t1),(8,.ptr 11 0),(18,.int .i64 t18),(19,.int .i64 t19)],stk := [[(0,.ptr 0 0),(1,.ptr 1 0),(2,.ptr 2 0),(3,.ptr 3 0),(4,.ptr 4 0),(6,.map 6),(9,.map 9),(10,.map 10)]],H := [.cells [.ptr 1 0,.ptr 2 0,.ptr 3 0,.int .i64 o0_3,.int .i64 o0_4,.int .i64 o0_5,.int .i64 o0_6,.int .i64 o0_7,.int .i64 o0_8,.bool o0_9,.bool o0_10,.ptr 4 0],.cells [.own 5,.map 6,.own 7,.int .i64 o1_3,.own 8,.int .i64 o1_5,.bool o1_6],.cells [.ptr 1 0,.int .i64 o2_1,.int .i64 o2_2],.cells [.ptr 1 0,.int .i64 o3_1,.int .i64 o3_2],.cells [.map 9,.map 10],.arr .str o5,.mp .i64 .str o6,.arr (.st (.pair (.int .i64) .str)) o7,.arr (.int .i64) o8,.mp .i64 .str o9,.mp .i64 .str o10,.bcells [.own 12],.arr (.int .u8) o12],blk := 155648 }
def decPq14_n1 (s : St) : Option {x : Iq14_n1 × Vq14_n1 // s = Sq14_n1 x.1 x.2} := match s with
  | { env := [(0,.ptr 0 0),(1,.int .i64 t1),(8,.ptr 11 0),(18,.int .i64 t18),(19,.int .i64 t19)],stk := [[(0,.ptr 0 0),(1,.ptr 1 0),(2,.ptr 2 0),(3,.ptr 3 0),(4,.ptr 4 0),(6,.map 6),(9,.map 9),(10,.map 10)]],H := [.cells [.ptr 1 0,.ptr 2 0,.ptr 3 0,.int .i64 o0_3,.int .i64 o0_4,.int .i64 o0_5,.int .i64 o0_6,.int .i64 o0_7,.int .i64 o0_8,.bool o0_9,.bool o0_10,.ptr 4 0],.cells [.own 5,.map 6,.own 7,.int .i64 o1_3,.own 8,.int .i64 o1_5,.bool o1_6],.cells [.ptr 1 0,.int .i64 o2_1,.int .i64 o2_2],.cells [.ptr 1 0,.int .i64 o3_1,.int .i64 o3_2],.cells [.map 9,.map 10],.arr .str o5,.mp .i64 .str o6,.arr (.st (.pair (.int .i64) .str)) o7,.arr (.int .i64) o8,.mp .i64 .str o9,.mp .i64 .str o10,.bcells [.own 12],.arr (.int .u8) o12],blk := 155648 } => some ⟨((t1,t18,o0_3,o0_4,o0_5,o0_6,o0_7,o0_8,o0_9,o0_10,o1_5,o2_1,o2_2,o3_1,o3_2,o5,o6,o7,o8,o9,o10),(t19,o1_3,o1_6,o12)),rfl⟩
  | _ => none
def decq14_n1 (s : St) : Option (Iq14_n1 × Vq14_n1) := pk (decPq14_n1 s)
theorem decq14_n1_ok (s : St) (x : Iq14_n1 × Vq14_n1) (h : decq14_n1 s = some x) : s = Sq14_n1 x.1 x.2 := pk_ok (o := decPq14_n1 s) h
def outq14_n1 : Iq14_n1 → (Ex → St → Ans) → Yq14_n1 → Ans := fun (t1,t18,o0_3,o0_4,o0_5,o0_6,o0_7,o0_8,o0_9,o0_10,o1_5,o2_1,o2_2,o3_1,o3_2,o5,o6,o7,o8,o9,o10) K => (Sum.elim (unP fun t7_y => unP fun o1_3_y o1_6_y => K (Ex.ret) { env := [(6,.str ([])),(7,.int .i64 t7_y)],stk := [[(0,.ptr 0 0),(1,.ptr 1 0),(2,.ptr 2 0),(3,.ptr 3 0),(4,.ptr 4 0),(6,.map 6),(9,.map 9),(10,.map 10)]],H := [.cells [.ptr 1 0,.ptr 2 0,.ptr 3 0,.int .i64 o0_3,.int .i64 o0_4,.int .i64 o0_5,.int .i64 o0_6,.int .i64 o0_7,.int .i64 o0_8,.bool o0_9,.bool o0_10,.ptr 4 0],.cells [.own 5,.map 6,.own 7,.int .i64 o1_3_y,.own 8,.int .i64 o1_5,.bool o1_6_y],.cells [.ptr 1 0,.int .i64 o2_1,.int .i64 o2_2],.cells [.ptr 1 0,.int .i64 o3_1,.int .i64 o3_2],.cells [.map 9,.map 10],.arr .str o5,.mp .i64 .str o6,.arr (.st (.pair (.int .i64) .str)) o7,.arr (.int .i64) o8,.mp .i64 .str o9,.mp .i64 .str o10],blk := 155649 }) (unP fun o1_3_y => unP fun o1_6_y o12_y => K (Ex.exit 0) { env := [(8,.ptr 11 0)],stk := [[(0,.ptr 0 0),(1,.ptr 1 0),(2,.ptr 2 0),(3,.ptr 3 0),(4,.ptr 4 0),(6,.map 6),(9,.map 9),(10,.map 10)]],H := [.cells [.ptr 1 0,.ptr 2 0,.ptr 3 0,.int .i64 o0_3,.int .i64 o0_4,.int .i64 o0_5,.int .i64 o0_6,.int .i64 o0_7,.int .i64 o0_8,.bool o0_9,.bool o0_10,.ptr 4 0],.cells [.own 5,.map 6,.own 7,.int .i64 o1_3_y,.own 8,.int .i64 o1_5,.bool o1_6_y],.cells [.ptr 1 0,.int .i64 o2_1,.int .i64 o2_2],.cells [.ptr 1 0,.int .i64 o3_1,.int .i64 o3_2],.cells [.map 9,.map 10],.arr .str o5,.mp .i64 .str o6,.arr (.st (.pair (.int .i64) .str)) o7,.arr (.int .i64) o8,.mp .i64 .str o9,.mp .i64 .str o10,.bcells [.own 12],.arr (.int .u8) o12_y],blk := 155648 }))
def stepq14_n1 {β : Type} : Iq14_n1 → Vq14_n1 → (Vq14_n1 → Option β) → (Yq14_n1 → Option β) → Option β := fun (t1,t18,o0_3,o0_4,o0_5,o0_6,o0_7,o0_8,o0_9,o0_10,o1_5,o2_1,o2_2,o3_1,o3_2,o5,o6,o7,o8,o9,o10) (t19,o1_3,o1_6,o12) next exit => (bif decide (t19 < t18) then (bindO (fnDq81 (IntKind.wrap .i64 (t1 + t19),o0_3,o0_4,o0_5,o0_6,o0_7,o0_8,o0_9,o0_10,o1_3,o1_5,o1_6,o2_1,o2_2,o3_1,o3_2,o5,o6,o7,o8,o9,o10)) (unP fun r_0 => unP fun r_1 => unP fun o1_3_2 o1_6_2 => (bif r_1 != (0 : Int) then (exit (Sum.inl (r_1,o1_3_2,o1_6_2))) else (bindO (fnDq75 (r_0,o12)) (unP fun r_0_2 o1 => (next (IntKind.wrap .i64 (t19 + (1 : Int)),o1_3_2,o1_6_2,o1))))))) else (exit (Sum.inr (o1_3,o1_6,o12))))
def stepDq14_n1 (i : Iq14_n1) (v : Vq14_n1) : Option (Vq14_n1 ⊕ Yq14_n1) := stepq14_n1 i v (fun v => some (.inl v)) (fun y => some (.inr y))
theorem stepq14_n1_nat (i : Iq14_n1) (v : Vq14_n1) (next : Vq14_n1 → Ans) (exit : Yq14_n1 → Ans) : stepq14_n1 i v next exit = bindO (stepDq14_n1 i v) (Sum.elim next exit) := by
  obtain ⟨t1,t18,o0_3,o0_4,o0_5,o0_6,o0_7,o0_8,o0_9,o0_10,o1_5,o2_1,o2_2,o3_1,o3_2,o5,o6,o7,o8,o9,o10⟩ := i
  obtain ⟨t19,o1_3,o1_6,o12⟩ := v
  simp only [stepDq14_n1,stepq14_n1,bindO_cond,bindO_assoc,bindO_none,bindO_pure,bindO_elim,bindO_unP,bindO_empty,Sum.elim_inl,Sum.elim_inr]
theorem stepq14_n1_ok (n : Nat) (i : Iq14_n1) (v : Vq14_n1) (K : Ex → St → Ans) : codeI Tryz.tab envq14 noHint (codeD Tryz.tab envq14 noHint 0 64) (n+1) 37 annLq14_n1 (.loop Lq14_n1) (weakP 11 (exk [8] [6,7] [(0,[8])]) K) (Sq14_n1 i v) = stepq14_n1 i v (fun v' => codeI Tryz.tab envq14 noHint (codeD Tryz.tab envq14 noHint 0 64) n 37 annLq14_n1 (.loop Lq14_n1) (weakP 11 (exk [8] [6,7] [(0,[8])]) K) (Sq14_n1 i v')) (fun y => outq14_n1 i K y) := by kernel_rfl
theorem GNq14_n1_ok : CSum Tryz.prog 37 (.loop Lq14_n1) (sumL decq14_n1 stepDq14_n1 outq14_n1) := csum_loop mixed tabOk envq14Ok 11 (exk [8] [6,7] [(0,[8])]) annLq14_n1_ok decq14_n1_ok stepq14_n1_ok stepq14_n1_nat
noncomputable def Gq14_n1 : (Ex → St → Ans) → St → Ans := (sumL decq14_n1 stepDq14_n1 outq14_n1)
theorem Gq14_n1_ok : CSum Tryz.prog 37 (.loop Lq14_n1) Gq14_n1 := GNq14_n1_ok
noncomputable def Lq14_n0 : Code := codeAt [1,0,0] bq14
noncomputable def annLq14_n0 : Ann := .none
theorem annLq14_n0_ok : AnnOk Tryz.prog 37 Lq14_n0 annLq14_n0 := (annOk_none _ _ _)
abbrev Iq14_n0 := (Int) × (Int) × (Int) × (Int) × (Int) × (Int) × (Int) × (Int) × (Bool) × (Bool) × (Int) × (Int) × (Bool) × (Int) × (Int) × (Int) × (Int) × (List (List UInt8)) × (List (Int × List UInt8)) × (List (Int × List UInt8)) × (List Int) × (List (Int × List UInt8)) × (List (Int × List UInt8))
abbrev Yq14_n0 := (Bool)
def Sq14_n0 : Iq14_n0 → St := fun (t1,t2,o0_3,o0_4,o0_5,o0_6,o0_7,o0_8,o0_9,o0_10,o1_3,o1_5,o1_6,o2_1,o2_2,o3_1,o3_2,o5,o6,o7,o8,o9,o10) => { env := [(0,.ptr 0 0),(1,.int .i64 t1),(2,.int .i64 t2)],stk := [[(0,.ptr 0 0),(1,.ptr 1 0),(2,.ptr 2 0),(3,.ptr 3 0),(4,.ptr 4 0),(6,.map 6),(9,.map 9),(10,.map 10)]],H := [.cells [.ptr 1 0,.ptr 2 0,.ptr 3 0,.int .i64 o0_3,.int .i64 o0_4,.int .i64 o0_5,.int .i64 o0_6,.int .i64 o0_7,.int .i64 o0_8,.bool o0_9,.bool o0_10,.ptr 4 0],.cells [.own 5,.map 6,.own 7,.int .i64 o1_3,.own 8,.int .i64 o1_5,.bool o1_6],.cells [.ptr 1 0,.int .i64 o2_1,.int .i64 o2_2],.cells [.ptr 1 0,.int .i64 o3_1,.int .i64 o3_2],.cells [.map 9,.map 10],.arr .str o5,.mp .i64 .str o6,.arr (.st (.pair (.int .i64) .str)) o7,.arr (.int .i64) o8,.mp .i64 .str o9,.mp .i64 .str o10],blk := 155648 }
def decPq14_n0 (s : St) : Option {x : Iq14_n0 // s = Sq14_n0 x} := match s with
  | { env := [(0,.ptr 0 0),(1,.int .i64 t1),(2,.int .i64 t2)],stk := [[(0,.ptr 0 0),(1,.ptr 1 0),(2,.ptr 2 0),(3,.ptr 3 0),(4,.ptr 4 0),(6,.map 6),(9,.map 9),(10,.map 10)]],H := [.cells [.ptr 1 0,.ptr 2 0,.ptr 3 0,.int .i64 o0_3,.int .i64 o0_4,.int .i64 o0_5,.int .i64 o0_6,.int .i64 o0_7,.int .i64 o0_8,.bool o0_9,.bool o0_10,.ptr 4 0],.cells [.own 5,.map 6,.own 7,.int .i64 o1_3,.own 8,.int .i64 o1_5,.bool o1_6],.cells [.ptr 1 0,.int .i64 o2_1,.int .i64 o2_2],.cells [.ptr 1 0,.int .i64 o3_1,.int .i64 o3_2],.cells [.map 9,.map 10],.arr .str o5,.mp .i64 .str o6,.arr (.st (.pair (.int .i64) .str)) o7,.arr (.int .i64) o8,.mp .i64 .str o9,.mp .i64 .str o10],blk := 155648 } => some ⟨(t1,t2,o0_3,o0_4,o0_5,o0_6,o0_7,o0_8,o0_9,o0_10,o1_3,o1_5,o1_6,o2_1,o2_2,o3_1,o3_2,o5,o6,o7,o8,o9,o10),rfl⟩
  | _ => none
def decq14_n0 (s : St) : Option Iq14_n0 := pk (decPq14_n0 s)
theorem decq14_n0_ok (s : St) (x : Iq14_n0) (h : decq14_n0 s = some x) : s = Sq14_n0 x := pk_ok (o := decPq14_n0 s) h
def outq14_n0 : Iq14_n0 → (Ex → St → Ans) → Yq14_n0 → Ans := fun (t1,t2,o0_3,o0_4,o0_5,o0_6,o0_7,o0_8,o0_9,o0_10,o1_3,o1_5,o1_6,o2_1,o2_2,o3_1,o3_2,o5,o6,o7,o8,o9,o10) K => fun t17_y => K (Ex.norm) { env := [(0,.ptr 0 0),(1,.int .i64 t1),(2,.int .i64 t2),(17,.bool t17_y)],stk := [[(0,.ptr 0 0),(1,.ptr 1 0),(2,.ptr 2 0),(3,.ptr 3 0),(4,.ptr 4 0),(6,.map 6),(9,.map 9),(10,.map 10)]],H := [.cells [.ptr 1 0,.ptr 2 0,.ptr 3 0,.int .i64 o0_3,.int .i64 o0_4,.int .i64 o0_5,.int .i64 o0_6,.int .i64 o0_7,.int .i64 o0_8,.bool o0_9,.bool o0_10,.ptr 4 0],.cells [.own 5,.map 6,.own 7,.int .i64 o1_3,.own 8,.int .i64 o1_5,.bool o1_6],.cells [.ptr 1 0,.int .i64 o2_1,.int .i64 o2_2],.cells [.ptr 1 0,.int .i64 o3_1,.int .i64 o3_2],.cells [.map 9,.map 10],.arr .str o5,.mp .i64 .str o6,.arr (.st (.pair (.int .i64) .str)) o7,.arr (.int .i64) o8,.mp .i64 .str o9,.mp .i64 .str o10],blk := 155648 }
def nodeq14_n0 {β : Type} : Iq14_n0 → (Yq14_n0 → Option β) → Option β := fun (t1,t2,o0_3,o0_4,o0_5,o0_6,o0_7,o0_8,o0_9,o0_10,o1_3,o1_5,o1_6,o2_1,o2_2,o3_1,o3_2,o5,o6,o7,o8,o9,o10) exit => (bif decide (t2 < (0 : Int)) then (exit (true)) else (exit (decide (t2 > (16 : Int)))))
def nodeDq14_n0 (i : Iq14_n0) : Option Yq14_n0 := nodeq14_n0 i some
theorem nodeq14_n0_nat (i : Iq14_n0) (k : Yq14_n0 → Ans) : nodeq14_n0 i k = bindO (nodeDq14_n0 i) k := by
  obtain ⟨t1,t2,o0_3,o0_4,o0_5,o0_6,o0_7,o0_8,o0_9,o0_10,o1_3,o1_5,o1_6,o2_1,o2_2,o3_1,o3_2,o5,o6,o7,o8,o9,o10⟩ := i
  simp only [nodeDq14_n0,nodeq14_n0,bindO_cond,bindO_assoc,bindO_none,bindO_pure,bindO_elim,bindO_unP,bindO_empty]
theorem nodeq14_n0_ok (i : Iq14_n0) (K : Ex → St → Ans) : codeI Tryz.tab envq14 noHint (codeD Tryz.tab envq14 noHint 0 64) 70 37 annLq14_n0 Lq14_n0 (weakP 11 (exk [0,1,2,17] [6,7] []) K) (Sq14_n0 i) = nodeq14_n0 i (outq14_n0 i K) := by kernel_rfl
theorem GNq14_n0_ok : CSum Tryz.prog 37 Lq14_n0 (sumN decq14_n0 nodeDq14_n0 outq14_n0) := csum_node mixed tabOk envq14Ok 11 (exk [0,1,2,17] [6,7] []) annLq14_n0_ok decq14_n0_ok nodeq14_n0_ok nodeq14_n0_nat
noncomputable def Gq14_n0 : (Ex → St → Ans) → St → Ans := (sumN decq14_n0 nodeDq14_n0 outq14_n0)
theorem Gq14_n0_ok : CSum Tryz.prog 37 Lq14_n0 Gq14_n0 := GNq14_n0_ok
noncomputable def annq14 : Ann := (.seq .none (.seq (.seq (.cut 11 [0,1,2] Gq14_n0) .none) (.seq .none (.seq (.seq .none (.block (.cut 11 [0,1,8,18,19] Gq14_n1))) .none))))
theorem annq14_ok : AnnOk Tryz.prog 37 bq14 annq14 := ⟨(annOk_none _ _ _),⟨⟨Gq14_n0_ok,(annOk_none _ _ _)⟩,⟨(annOk_none _ _ _),⟨⟨(annOk_none _ _ _),Gq14_n1_ok⟩,(annOk_none _ _ _)⟩⟩⟩⟩
abbrev Aq14 := (Int) × (Int) × (Int) × (Int) × (Int) × (Int) × (Int) × (Int) × (Bool) × (Bool) × (Int) × (Int) × (Bool) × (Int) × (Int) × (Int) × (Int) × (List (List UInt8)) × (List (Int × List UInt8)) × (List (Int × List UInt8)) × (List Int) × (List (Int × List UInt8)) × (List (Int × List UInt8))
abbrev Yq14 := (List UInt8) × (Int) × (Int) × (Bool)
def fnq14 {β : Type} : Aq14 → (Yq14 → Option β) → Option β := fun (a1,a2,o0_3,o0_4,o0_5,o0_6,o0_7,o0_8,o0_9,o0_10,o1_3,o1_5,o1_6,o2_1,o2_2,o3_1,o3_2,o5,o6,o7,o8,o9,o10) exit => (bindO (nodeDq14_n0 (a1,a2,o0_3,o0_4,o0_5,o0_6,o0_7,o0_8,o0_9,o0_10,o1_3,o1_5,o1_6,o2_1,o2_2,o3_1,o3_2,o5,o6,o7,o8,o9,o10)) fun t17 => (bif t17 then (exit ([],(3 : Int),o1_3,o1_6)) else (bindO (loopD (stepDq14_n1 (a1,a2,o0_3,o0_4,o0_5,o0_6,o0_7,o0_8,o0_9,o0_10,o1_5,o2_1,o2_2,o3_1,o3_2,o5,o6,o7,o8,o9,o10)) FUEL ((0 : Int),o1_3,o1_6,[])) (Sum.elim (unP fun t7 => unP fun o1_3_2 o1_6_2 => (exit ([],t7,o1_3_2,o1_6_2))) (unP fun o1_3_2 => unP fun o1_6_2 o12 => (bindO (fnDBuilder_String (o12)) (unP fun r o0 => (exit (r,(0 : Int),o1_3_2,o1_6_2)))))))))
def fnDq14 (a : Aq14) : Option Yq14 := fnq14 a some
theorem fnq14_nat (a : Aq14) (k : Yq14 → Ans) : fnq14 a k = bindO (fnDq14 a) k := by
  obtain ⟨a1,a2,o0_3,o0_4,o0_5,o0_6,o0_7,o0_8,o0_9,o0_10,o1_3,o1_5,o1_6,o2_1,o2_2,o3_1,o3_2,o5,o6,o7,o8,o9,o10⟩ := a
  simp only [fnDq14,fnq14,bindO_cond,bindO_assoc,bindO_none,bindO_pure,bindO_elim,bindO_unP,bindO_empty]
def argsq14 : Aq14 → List AV × List AE.Obj := fun (a1,a2,o0_3,o0_4,o0_5,o0_6,o0_7,o0_8,o0_9,o0_10,o1_3,o1_5,o1_6,o2_1,o2_2,o3_1,o3_2,o5,o6,o7,o8,o9,o10) => ([.ptr 0 0,.int .i64 a1,.int .i64 a2],[.cells [.ptr 1 0,.ptr 2 0,.ptr 3 0,.int .i64 o0_3,.int .i64 o0_4,.int .i64 o0_5,.int .i64 o0_6,.int .i64 o0_7,.int .i64 o0_8,.bool o0_9,.bool o0_10,.ptr 4 0],.cells [.own 5,.map 6,.own 7,.int .i64 o1_3,.own 8,.int .i64 o1_5,.bool o1_6],.cells [.ptr 1 0,.int .i64 o2_1,.int .i64 o2_2],.cells [.ptr 1 0,.int .i64 o3_1,.int .i64 o3_2],.cells [.map 9,.map 10],.arr .str o5,.mp .i64 .str o6,.arr (.st (.pair (.int .i64) .str)) o7,.arr (.int .i64) o8,.mp .i64 .str o9,.mp .i64 .str o10])
def decPAq14 (l : List AV) (H : List AE.Obj) : Option {a : Aq14 // (l,H) = argsq14 a} := match l,H with
  | [.ptr 0 0,.int .i64 a1,.int .i64 a2],[.cells [.ptr 1 0,.ptr 2 0,.ptr 3 0,.int .i64 o0_3,.int .i64 o0_4,.int .i64 o0_5,.int .i64 o0_6,.int .i64 o0_7,.int .i64 o0_8,.bool o0_9,.bool o0_10,.ptr 4 0],.cells [.own 5,.map 6,.own 7,.int .i64 o1_3,.own 8,.int .i64 o1_5,.bool o1_6],.cells [.ptr 1 0,.int .i64 o2_1,.int .i64 o2_2],.cells [.ptr 1 0,.int .i64 o3_1,.int .i64 o3_2],.cells [.map 9,.map 10],.arr .str o5,.mp .i64 .str o6,.arr (.st (.pair (.int .i64) .str)) o7,.arr (.int .i64) o8,.mp .i64 .str o9,.mp .i64 .str o10] => some ⟨(a1,a2,o0_3,o0_4,o0_5,o0_6,o0_7,o0_8,o0_9,o0_10,o1_3,o1_5,o1_6,o2_1,o2_2,o3_1,o3_2,o5,o6,o7,o8,o9,o10),rfl⟩
  | _,_ => none
def decAq14 (l : List AV) (H : List AE.Obj) : Option Aq14 := pk (decPAq14 l H)
theorem decAq14_ok (l : List AV) (H : List AE.Obj) (a : Aq14) (h : decAq14 l H = some a) : (l,H) = argsq14 a := pk_ok (o := decPAq14 l H) h
def outq14 : Aq14 → (AV → List AE.Obj → Ans) → Yq14 → Ans := fun (a1,a2,o0_3,o0_4,o0_5,o0_6,o0_7,o0_8,o0_9,o0_10,o1_3,o1_5,o1_6,o2_1,o2_2,o3_1,o3_2,o5,o6,o7,o8,o9,o10) K => unP fun r_0_y => unP fun r_1_y => unP fun o1_3_y o1_6_y => K (.tup [.str r_0_y,.int .i64 r_1_y]) [.cells [.ptr 1 0,.ptr 2 0,.ptr 3 0,.int .i64 o0_3,.int .i64 o0_4,.int .i64 o0_5,.int .i64 o0_6,.int .i64 o0_7,.int .i64 o0_8,.bool o0_9,.bool o0_10,.ptr 4 0],.cells [.own 5,.map 6,.own 7,.int .i64 o1_3_y,.own 8,.int .i64 o1_5,.bool o1_6_y],.cells [.ptr 1 0,.int .i64 o2_1,.int .i64 o2_2],.cells [.ptr 1 0,.int .i64 o3_1,.int .i64 o3_2],.cells [.map 9,.map 10],.arr .str o5,.mp .i64 .str o6,.arr (.st (.pair (.int .i64) .str)) o7,.arr (.int .i64) o8,.mp .i64 .str o9,.mp .i64 .str o10]
theorem fnq14_ok (a : Aq14) (K : AV → List AE.Obj → Ans) : fnE Tryz.tab envq14 noHint 0 70 38 Tryz.f38.ntmps Tryz.f38.results.toList annq14 bq14 (argsq14 a).1 (argsq14 a).2 K = fnq14 a (outq14 a K) := by kernel_rfl
def vFq14 (a : Aq14) (K : AV → List AE.Obj → Ans) : Ans := bindO (fnDq14 a) fun y => outq14 a K y
def Fq14 : List AV → List AE.Obj → (AV → List AE.Obj → Ans) → Ans := fun l H K => bindO (decAq14 l H) fun a => vFq14 a K
theorem Fq14_ok : FuncOk Tryz.prog 38 Fq14 := func_mkD (hint := noHint) (d := 0) (n := 70) mixed tabOk envq14Ok Tryz.func38 (bodySome (by kernel_rfl)) (by decide +kernel) annq14_ok decAq14_ok fnq14_ok fnq14_nat
--@ law20_ExtentRows
noncomputable def envq23 : Env := [(34,.pure Flaw20_works),(35,.func Flaw16_Begun9),(36,.func Fq15),(37,.pure Fq25),(38,.func Fq14)]
theorem envq23Ok : EnvOk Tryz.prog envq23 := EnvOk.cons Flaw20_works_ok (EnvOk.cons Flaw16_Begun9_ok (EnvOk.cons Fq15_ok (EnvOk.cons Fq25_ok (EnvOk.cons Fq14_ok (EnvOk.nil)))))
noncomputable def bq23 : Code := Tryz.f4.body.getD .skip
noncomputable def Lq23_n3 : Code := codeAt [1,1,1,1,1,1,1,1,1,1,1,1,1,1,1,1,0] bq23
noncomputable def annLq23_n3 : Ann := .none
theorem annLq23_n3_ok : AnnOk Tryz.prog 125 Lq23_n3 annLq23_n3 := (annOk_none _ _ _)
abbrev Iq23_n3 := (List UInt8) × (Int) × (List UInt8) × (Int) × (List UInt8) × (Int)
abbrev Yq23_n3 := (Bool)
def Sq23_n3 : Iq23_n3 → St := fun (t1,t10,t15,t16,t17,t18) => { env := [(1,.str t1),(10,.int .i64 t10),(15,.str t15),(16,.int .i64 t16),(17,.str t17),(18,.int .i64 t18)],stk := [[]],H := [],blk := 16384 }
def decPq23_n3 (s : St) : Option {x : Iq23_n3 // s = Sq23_n3 x} := match s with
  | { env := [(1,.str t1),(10,.int .i64 t10),(15,.str t15),(16,.int .i64 t16),(17,.str t17),(18,.int .i64 t18)],stk := [[]],H := [],blk := 16384 } => some ⟨(t1,t10,t15,t16,t17,t18),rfl⟩
  | _ => none
def decq23_n3 (s : St) : Option Iq23_n3 := pk (decPq23_n3 s)
theorem decq23_n3_ok (s : St) (x : Iq23_n3) (h : decq23_n3 s = some x) : s = Sq23_n3 x := pk_ok (o := decPq23_n3 s) h
def outq23_n3 : Iq23_n3 → (Ex → St → Ans) → Yq23_n3 → Ans := fun (t1,t10,t15,t16,t17,t18) K => fun t6_y => K (Ex.norm) { env := [(6,.bool t6_y)],stk := [[]],H := [],blk := 16384 }
def nodeq23_n3 {β : Type} : Iq23_n3 → (Yq23_n3 → Option β) → Option β := fun (t1,t10,t15,t16,t17,t18) exit => (bif t15 == t1 then (bif t16 == (0 : Int) then (bif inR (IntKind.wrap .i64 (IntKind.wrap .i64 (t10 - (1 : Int)) * (64 : Int))) (List.length t1 + (1 : Nat)) then (bif t17 == List.drop (Int.toNat (IntKind.wrap .i64 (IntKind.wrap .i64 (t10 - (1 : Int)) * (64 : Int)))) t1 then (exit (t18 == (0 : Int))) else (exit (false))) else none) else (exit (false))) else (exit (false)))
def nodeDq23_n3 (i : Iq23_n3) : Option Yq23_n3 := nodeq23_n3 i some
theorem nodeq23_n3_nat (i : Iq23_n3) (k : Yq23_n3 → Ans) : nodeq23_n3 i k = bindO (nodeDq23_n3 i) k := by
  obtain ⟨t1,t10,t15,t16,t17,t18⟩ := i
  simp only [nodeDq23_n3,nodeq23_n3,bindO_cond,bindO_assoc,bindO_none,bindO_pure,bindO_elim,bindO_unP,bindO_empty]
theorem nodeq23_n3_ok (i : Iq23_n3) (K : Ex → St → Ans) : codeI Tryz.tab envq23 noHint (codeD Tryz.tab envq23 noHint 0 64) 70 125 annLq23_n3 Lq23_n3 (weakP 0 (exk [6] [6] []) K) (Sq23_n3 i) = nodeq23_n3 i (outq23_n3 i K) := by kernel_rfl
theorem GNq23_n3_ok : CSum Tryz.prog 125 Lq23_n3 (sumN decq23_n3 nodeDq23_n3 outq23_n3) := csum_node mixed tabOk envq23Ok 0 (exk [6] [6] []) annLq23_n3_ok decq23_n3_ok nodeq23_n3_ok nodeq23_n3_nat
noncomputable def Gq23_n3 : (Ex → St → Ans) → St → Ans := (sumN decq23_n3 nodeDq23_n3 outq23_n3)
theorem Gq23_n3_ok : CSum Tryz.prog 125 Lq23_n3 Gq23_n3 := GNq23_n3_ok
noncomputable def Lq23_n2 : Code := codeAt [1,1,1,1,1,1,1,1,1,1,1,1,0,0] bq23
noncomputable def annLq23_n2 : Ann := .none
theorem annLq23_n2_ok : AnnOk Tryz.prog 125 Lq23_n2 annLq23_n2 := (annOk_none _ _ _)
abbrev Iq23_n2 := (Int) × (List UInt8) × (Int) × (Int) × (Int) × (Int) × (Int) × (Bool) × (List (Int × List UInt8))
abbrev Yq23_n2 := (Bool)
def Sq23_n2 : Iq23_n2 → St := fun (t0,t1,t2,t10,t11,t14,o1_3,o1_6,o10) => { env := [(0,.int .i64 t0),(1,.str t1),(2,.int .i64 t2),(9,.ptr 0 0),(10,.int .i64 t10),(11,.int .i64 t11),(14,.int .i64 t14)],stk := [[]],H := [.cells [.ptr 1 0,.ptr 2 0,.ptr 3 0,.int .i64 (35),.int .i64 (24),.int .i64 (2),.int .i64 (0),.int .i64 (25),.int .i64 (0),.bool (true),.bool (false),.ptr 4 0],.cells [.own 5,.map 6,.own 7,.int .i64 o1_3,.own 8,.int .i64 (0),.bool o1_6],.cells [.ptr 1 0,.int .i64 (35),.int .i64 (2)],.cells [.ptr 1 0,.int .i64 (37),.int .i64 (22)],.cells [.map 9,.map 10],.arr .str (R7.sure9),.mp .i64 .str ([]),.arr (.st (.pair (.int .i64) .str)) ([]),.arr (.int .i64) ([]),.mp .i64 .str ([]),.mp .i64 .str o10],blk := 16384 }
def decPq23_n2 (s : St) : Option {x : Iq23_n2 // s = Sq23_n2 x} := match s with
  | { env := [(0,.int .i64 t0),(1,.str t1),(2,.int .i64 t2),(9,.ptr 0 0),(10,.int .i64 t10),(11,.int .i64 t11),(14,.int .i64 t14)],stk := [[]],H := [.cells [.ptr 1 0,.ptr 2 0,.ptr 3 0,.int .i64 r6,.int .i64 r7,.int .i64 r8,.int .i64 r9,.int .i64 r10,.int .i64 r11,.bool r12,.bool r13,.ptr 4 0],.cells [.own 5,.map 6,.own 7,.int .i64 o1_3,.own 8,.int .i64 r15,.bool o1_6],.cells [.ptr 1 0,.int .i64 r17,.int .i64 r18],.cells [.ptr 1 0,.int .i64 r19,.int .i64 r20],.cells [.map 9,.map 10],.arr .str r21,.mp .i64 .str r22,.arr (.st (.pair (.int .i64) .str)) r23,.arr (.int .i64) r24,.mp .i64 .str r25,.mp .i64 .str o10],blk := 16384 } => if h6 : r6 = 35 then if h7 : r7 = 24 then if h8 : r8 = 2 then if h9 : r9 = 0 then if h10 : r10 = 25 then if h11 : r11 = 0 then if h12 : r12 = true then if h13 : r13 = false then if h15 : r15 = 0 then if h17 : r17 = 35 then if h18 : r18 = 2 then if h19 : r19 = 37 then if h20 : r20 = 22 then if h21 : r21 = R7.sure9 then if h22 : r22 = [] then if h23 : r23 = [] then if h24 : r24 = [] then if h25 : r25 = [] then some ⟨(t0,t1,t2,t10,t11,t14,o1_3,o1_6,o10),by subst h6 h7 h8 h9 h10 h11 h12 h13 h15 h17 h18 h19 h20 h21 h22 h23 h24 h25; rfl⟩ else none else none else none else none else none else none else none else none else none else none else none else none else none else none else none else none else none else none
  | _ => none
def decq23_n2 (s : St) : Option Iq23_n2 := pk (decPq23_n2 s)
theorem decq23_n2_ok (s : St) (x : Iq23_n2) (h : decq23_n2 s = some x) : s = Sq23_n2 x := pk_ok (o := decPq23_n2 s) h
def outq23_n2 : Iq23_n2 → (Ex → St → Ans) → Yq23_n2 → Ans := fun (t0,t1,t2,t10,t11,t14,o1_3,o1_6,o10) K => fun t84_y => K (Ex.norm) { env := [(0,.int .i64 t0),(1,.str t1),(9,.ptr 0 0),(10,.int .i64 t10),(11,.int .i64 t11),(14,.int .i64 t14),(84,.bool t84_y)],stk := [[]],H := [.cells [.ptr 1 0,.ptr 2 0,.ptr 3 0,.int .i64 (35),.int .i64 (24),.int .i64 (2),.int .i64 (0),.int .i64 (25),.int .i64 (0),.bool (true),.bool (false),.ptr 4 0],.cells [.own 5,.map 6,.own 7,.int .i64 o1_3,.own 8,.int .i64 (0),.bool o1_6],.cells [.ptr 1 0,.int .i64 (35),.int .i64 (2)],.cells [.ptr 1 0,.int .i64 (37),.int .i64 (22)],.cells [.map 9,.map 10],.arr .str (R7.sure9),.mp .i64 .str ([]),.arr (.st (.pair (.int .i64) .str)) ([]),.arr (.int .i64) ([]),.mp .i64 .str ([]),.mp .i64 .str o10],blk := 16384 }
def nodeq23_n2 {β : Type} : Iq23_n2 → (Yq23_n2 → Option β) → Option β := fun (t0,t1,t2,t10,t11,t14,o1_3,o1_6,o10) exit => (bif decide (t2 < (0 : Int)) then (exit (true)) else (exit (decide (t2 > (16 : Int)))))
def nodeDq23_n2 (i : Iq23_n2) : Option Yq23_n2 := nodeq23_n2 i some
theorem nodeq23_n2_nat (i : Iq23_n2) (k : Yq23_n2 → Ans) : nodeq23_n2 i k = bindO (nodeDq23_n2 i) k := by
  obtain ⟨t0,t1,t2,t10,t11,t14,o1_3,o1_6,o10⟩ := i
  simp only [nodeDq23_n2,nodeq23_n2,bindO_cond,bindO_assoc,bindO_none,bindO_pure,bindO_elim,bindO_unP,bindO_empty]
theorem nodeq23_n2_ok (i : Iq23_n2) (K : Ex → St → Ans) : codeI Tryz.tab envq23 noHint (codeD Tryz.tab envq23 noHint 0 64) 70 125 annLq23_n2 Lq23_n2 (weakP 0 (exk [0,1,9,10,11,14,84] [6] []) K) (Sq23_n2 i) = nodeq23_n2 i (outq23_n2 i K) := by kernel_rfl
theorem GNq23_n2_ok : CSum Tryz.prog 125 Lq23_n2 (sumN decq23_n2 nodeDq23_n2 outq23_n2) := csum_node mixed tabOk envq23Ok 0 (exk [0,1,9,10,11,14,84] [6] []) annLq23_n2_ok decq23_n2_ok nodeq23_n2_ok nodeq23_n2_nat
noncomputable def Gq23_n2 : (Ex → St → Ans) → St → Ans := (sumN decq23_n2 nodeDq23_n2 outq23_n2)
theorem Gq23_n2_ok : CSum Tryz.prog 125 Lq23_n2 Gq23_n2 := GNq23_n2_ok
noncomputable def Lq23_n1 : Code := codeAt [1,1,1,1,1,1,1,1,1,1,0,0] bq23
noncomputable def annLq23_n1 : Ann := .none
theorem annLq23_n1_ok : AnnOk Tryz.prog 125 Lq23_n1 annLq23_n1 := (annOk_none _ _ _)
abbrev Iq23_n1 := (Int) × (List UInt8) × (Int) × (Int) × (Int) × (Int) × (List (Int × List UInt8))
abbrev Yq23_n1 := (Bool)
def Sq23_n1 : Iq23_n1 → St := fun (t0,t1,t2,t10,t11,t12,o10) => { env := [(0,.int .i64 t0),(1,.str t1),(2,.int .i64 t2),(9,.ptr 0 0),(10,.int .i64 t10),(11,.int .i64 t11),(12,.int .i64 t12)],stk := [[]],H := [.cells [.ptr 1 0,.ptr 2 0,.ptr 3 0,.int .i64 (35),.int .i64 (24),.int .i64 (2),.int .i64 (0),.int .i64 (25),.int .i64 (0),.bool (true),.bool (false),.ptr 4 0],.cells [.own 5,.map 6,.own 7,.int .i64 (33),.own 8,.int .i64 (0),.bool (false)],.cells [.ptr 1 0,.int .i64 (35),.int .i64 (2)],.cells [.ptr 1 0,.int .i64 (37),.int .i64 (22)],.cells [.map 9,.map 10],.arr .str (R7.sure9),.mp .i64 .str ([]),.arr (.st (.pair (.int .i64) .str)) ([]),.arr (.int .i64) ([]),.mp .i64 .str ([]),.mp .i64 .str o10],blk := 16384 }
def decPq23_n1 (s : St) : Option {x : Iq23_n1 // s = Sq23_n1 x} := match s with
  | { env := [(0,.int .i64 t0),(1,.str t1),(2,.int .i64 t2),(9,.ptr 0 0),(10,.int .i64 t10),(11,.int .i64 t11),(12,.int .i64 t12)],stk := [[]],H := [.cells [.ptr 1 0,.ptr 2 0,.ptr 3 0,.int .i64 r6,.int .i64 r7,.int .i64 r8,.int .i64 r9,.int .i64 r10,.int .i64 r11,.bool r12,.bool r13,.ptr 4 0],.cells [.own 5,.map 6,.own 7,.int .i64 r14,.own 8,.int .i64 r15,.bool r16],.cells [.ptr 1 0,.int .i64 r17,.int .i64 r18],.cells [.ptr 1 0,.int .i64 r19,.int .i64 r20],.cells [.map 9,.map 10],.arr .str r21,.mp .i64 .str r22,.arr (.st (.pair (.int .i64) .str)) r23,.arr (.int .i64) r24,.mp .i64 .str r25,.mp .i64 .str o10],blk := 16384 } => if h6 : r6 = 35 then if h7 : r7 = 24 then if h8 : r8 = 2 then if h9 : r9 = 0 then if h10 : r10 = 25 then if h11 : r11 = 0 then if h12 : r12 = true then if h13 : r13 = false then if h14 : r14 = 33 then if h15 : r15 = 0 then if h16 : r16 = false then if h17 : r17 = 35 then if h18 : r18 = 2 then if h19 : r19 = 37 then if h20 : r20 = 22 then if h21 : r21 = R7.sure9 then if h22 : r22 = [] then if h23 : r23 = [] then if h24 : r24 = [] then if h25 : r25 = [] then some ⟨(t0,t1,t2,t10,t11,t12,o10),by subst h6 h7 h8 h9 h10 h11 h12 h13 h14 h15 h16 h17 h18 h19 h20 h21 h22 h23 h24 h25; rfl⟩ else none else none else none else none else none else none else none else none else none else none else none else none else none else none else none else none else none else none else none else none
  | _ => none
def decq23_n1 (s : St) : Option Iq23_n1 := pk (decPq23_n1 s)
theorem decq23_n1_ok (s : St) (x : Iq23_n1) (h : decq23_n1 s = some x) : s = Sq23_n1 x := pk_ok (o := decPq23_n1 s) h
def outq23_n1 : Iq23_n1 → (Ex → St → Ans) → Yq23_n1 → Ans := fun (t0,t1,t2,t10,t11,t12,o10) K => fun t71_y => K (Ex.norm) { env := [(0,.int .i64 t0),(1,.str t1),(2,.int .i64 t2),(9,.ptr 0 0),(10,.int .i64 t10),(11,.int .i64 t11),(71,.bool t71_y)],stk := [[]],H := [.cells [.ptr 1 0,.ptr 2 0,.ptr 3 0,.int .i64 (35),.int .i64 (24),.int .i64 (2),.int .i64 (0),.int .i64 (25),.int .i64 (0),.bool (true),.bool (false),.ptr 4 0],.cells [.own 5,.map 6,.own 7,.int .i64 (33),.own 8,.int .i64 (0),.bool (false)],.cells [.ptr 1 0,.int .i64 (35),.int .i64 (2)],.cells [.ptr 1 0,.int .i64 (37),.int .i64 (22)],.cells [.map 9,.map 10],.arr .str (R7.sure9),.mp .i64 .str ([]),.arr (.st (.pair (.int .i64) .str)) ([]),.arr (.int .i64) ([]),.mp .i64 .str ([]),.mp .i64 .str o10],blk := 16384 }
def nodeq23_n1 {β : Type} : Iq23_n1 → (Yq23_n1 → Option β) → Option β := fun (t0,t1,t2,t10,t11,t12,o10) exit => (bif decide (t0 ≥ (0 : Int)) then (bif decide (t0 ≤ t12) then (exit (!(t11 == (0 : Int)) == decide (t10 ≤ IntKind.wrap .i64 (t12 - t0)))) else (exit (!(t11 == (0 : Int)) == false))) else (exit (!(t11 == (0 : Int)) == false)))
def nodeDq23_n1 (i : Iq23_n1) : Option Yq23_n1 := nodeq23_n1 i some
theorem nodeq23_n1_nat (i : Iq23_n1) (k : Yq23_n1 → Ans) : nodeq23_n1 i k = bindO (nodeDq23_n1 i) k := by
  obtain ⟨t0,t1,t2,t10,t11,t12,o10⟩ := i
  simp only [nodeDq23_n1,nodeq23_n1,bindO_cond,bindO_assoc,bindO_none,bindO_pure,bindO_elim,bindO_unP,bindO_empty]
theorem nodeq23_n1_ok (i : Iq23_n1) (K : Ex → St → Ans) : codeI Tryz.tab envq23 noHint (codeD Tryz.tab envq23 noHint 0 64) 70 125 annLq23_n1 Lq23_n1 (weakP 0 (exk [0,1,2,9,10,11,71] [6] []) K) (Sq23_n1 i) = nodeq23_n1 i (outq23_n1 i K) := by kernel_rfl
theorem GNq23_n1_ok : CSum Tryz.prog 125 Lq23_n1 (sumN decq23_n1 nodeDq23_n1 outq23_n1) := csum_node mixed tabOk envq23Ok 0 (exk [0,1,2,9,10,11,71] [6] []) annLq23_n1_ok decq23_n1_ok nodeq23_n1_ok nodeq23_n1_nat
noncomputable def Gq23_n1 : (Ex → St → Ans) → St → Ans := (sumN decq23_n1 nodeDq23_n1 outq23_n1)
theorem Gq23_n1_ok : CSum Tryz.prog 125 Lq23_n1 Gq23_n1 := GNq23_n1_ok
noncomputable def Lq23_n0 : Code := codeAt [1,1,1,1,1,1,1,1,0,0] bq23
noncomputable def annLq23_n0 : Ann := .none
theorem annLq23_n0_ok : AnnOk Tryz.prog 125 Lq23_n0 annLq23_n0 := (annOk_none _ _ _)
abbrev Iq23_n0 := (Int) × (List UInt8) × (Int) × (Int) × (Int) × (List (Int × List UInt8))
abbrev Yq23_n0 := (Bool)
def Sq23_n0 : Iq23_n0 → St := fun (t0,t1,t2,t10,t11,o11) => { env := [(0,.int .i64 t0),(1,.str t1),(2,.int .i64 t2),(7,.ptr 0 0),(9,.ptr 1 0),(10,.int .i64 t10),(11,.int .i64 t11)],stk := [[]],H := [.cells [.int .i64 (9),.int .i64 (2),.int .i64 (24)],.cells [.ptr 2 0,.ptr 3 0,.ptr 4 0,.int .i64 (35),.int .i64 (24),.int .i64 (2),.int .i64 (0),.int .i64 (25),.int .i64 (0),.bool (true),.bool (false),.ptr 5 0],.cells [.own 6,.map 7,.own 8,.int .i64 (33),.own 9,.int .i64 (0),.bool (false)],.cells [.ptr 2 0,.int .i64 (35),.int .i64 (2)],.cells [.ptr 2 0,.int .i64 (37),.int .i64 (22)],.cells [.map 10,.map 11],.arr .str (R7.sure9),.mp .i64 .str ([]),.arr (.st (.pair (.int .i64) .str)) ([]),.arr (.int .i64) ([]),.mp .i64 .str ([]),.mp .i64 .str o11],blk := 16384 }
def decPq23_n0 (s : St) : Option {x : Iq23_n0 // s = Sq23_n0 x} := match s with
  | { env := [(0,.int .i64 t0),(1,.str t1),(2,.int .i64 t2),(7,.ptr 0 0),(9,.ptr 1 0),(10,.int .i64 t10),(11,.int .i64 t11)],stk := [[]],H := [.cells [.int .i64 r5,.int .i64 r6,.int .i64 r7],.cells [.ptr 2 0,.ptr 3 0,.ptr 4 0,.int .i64 r8,.int .i64 r9,.int .i64 r10,.int .i64 r11,.int .i64 r12,.int .i64 r13,.bool r14,.bool r15,.ptr 5 0],.cells [.own 6,.map 7,.own 8,.int .i64 r16,.own 9,.int .i64 r17,.bool r18],.cells [.ptr 2 0,.int .i64 r19,.int .i64 r20],.cells [.ptr 2 0,.int .i64 r21,.int .i64 r22],.cells [.map 10,.map 11],.arr .str r23,.mp .i64 .str r24,.arr (.st (.pair (.int .i64) .str)) r25,.arr (.int .i64) r26,.mp .i64 .str r27,.mp .i64 .str o11],blk := 16384 } => if h5 : r5 = 9 then if h6 : r6 = 2 then if h7 : r7 = 24 then if h8 : r8 = 35 then if h9 : r9 = 24 then if h10 : r10 = 2 then if h11 : r11 = 0 then if h12 : r12 = 25 then if h13 : r13 = 0 then if h14 : r14 = true then if h15 : r15 = false then if h16 : r16 = 33 then if h17 : r17 = 0 then if h18 : r18 = false then if h19 : r19 = 35 then if h20 : r20 = 2 then if h21 : r21 = 37 then if h22 : r22 = 22 then if h23 : r23 = R7.sure9 then if h24 : r24 = [] then if h25 : r25 = [] then if h26 : r26 = [] then if h27 : r27 = [] then some ⟨(t0,t1,t2,t10,t11,o11),by subst h5 h6 h7 h8 h9 h10 h11 h12 h13 h14 h15 h16 h17 h18 h19 h20 h21 h22 h23 h24 h25 h26 h27; rfl⟩ else none else none else none else none else none else none else none else none else none else none else none else none else none else none else none else none else none else none else none else none else none else none else none
  | _ => none
def decq23_n0 (s : St) : Option Iq23_n0 := pk (decPq23_n0 s)
theorem decq23_n0_ok (s : St) (x : Iq23_n0) (h : decq23_n0 s = some x) : s = Sq23_n0 x := pk_ok (o := decPq23_n0 s) h
def outq23_n0 : Iq23_n0 → (Ex → St → Ans) → Yq23_n0 → Ans := fun (t0,t1,t2,t10,t11,o11) K => fun t50_y => K (Ex.norm) { env := [(0,.int .i64 t0),(1,.str t1),(2,.int .i64 t2),(7,.ptr 0 0),(9,.ptr 1 0),(10,.int .i64 t10),(11,.int .i64 t11),(50,.bool t50_y)],stk := [[]],H := [.cells [.int .i64 (9),.int .i64 (2),.int .i64 (24)],.cells [.ptr 2 0,.ptr 3 0,.ptr 4 0,.int .i64 (35),.int .i64 (24),.int .i64 (2),.int .i64 (0),.int .i64 (25),.int .i64 (0),.bool (true),.bool (false),.ptr 5 0],.cells [.own 6,.map 7,.own 8,.int .i64 (33),.own 9,.int .i64 (0),.bool (false)],.cells [.ptr 2 0,.int .i64 (35),.int .i64 (2)],.cells [.ptr 2 0,.int .i64 (37),.int .i64 (22)],.cells [.map 10,.map 11],.arr .str (R7.sure9),.mp .i64 .str ([]),.arr (.st (.pair (.int .i64) .str)) ([]),.arr (.int .i64) ([]),.mp .i64 .str ([]),.mp .i64 .str o11],blk := 16384 }
def nodeq23_n0 {β : Type} : Iq23_n0 → (Yq23_n0 → Option β) → Option β := fun (t0,t1,t2,t10,t11,o11) exit => (bif decide (t10 < (1 : Int)) then (exit (true)) else (bif decide (t10 > (16 : Int)) then (exit (true)) else (exit (Int.tmod (↑(List.length t1) : Int) (64 : Int) != (0 : Int)))))
def nodeDq23_n0 (i : Iq23_n0) : Option Yq23_n0 := nodeq23_n0 i some
theorem nodeq23_n0_nat (i : Iq23_n0) (k : Yq23_n0 → Ans) : nodeq23_n0 i k = bindO (nodeDq23_n0 i) k := by
  obtain ⟨t0,t1,t2,t10,t11,o11⟩ := i
  simp only [nodeDq23_n0,nodeq23_n0,bindO_cond,bindO_assoc,bindO_none,bindO_pure,bindO_elim,bindO_unP,bindO_empty]
theorem nodeq23_n0_ok (i : Iq23_n0) (K : Ex → St → Ans) : codeI Tryz.tab envq23 noHint (codeD Tryz.tab envq23 noHint 0 64) 70 125 annLq23_n0 Lq23_n0 (weakP 0 (exk [0,1,2,7,9,10,11,50] [6] []) K) (Sq23_n0 i) = nodeq23_n0 i (outq23_n0 i K) := by kernel_rfl
theorem GNq23_n0_ok : CSum Tryz.prog 125 Lq23_n0 (sumN decq23_n0 nodeDq23_n0 outq23_n0) := csum_node mixed tabOk envq23Ok 0 (exk [0,1,2,7,9,10,11,50] [6] []) annLq23_n0_ok decq23_n0_ok nodeq23_n0_ok nodeq23_n0_nat
noncomputable def Gq23_n0 : (Ex → St → Ans) → St → Ans := (sumN decq23_n0 nodeDq23_n0 outq23_n0)
theorem Gq23_n0_ok : CSum Tryz.prog 125 Lq23_n0 Gq23_n0 := GNq23_n0_ok
noncomputable def annq23 : Ann := (.seq .none (.seq .none (.seq .none (.seq .none (.seq .none (.seq .none (.seq .none (.seq .none (.seq (.seq (.cut 0 [0,1,2,7,9,10,11] Gq23_n0) .none) (.seq .none (.seq (.seq (.cut 0 [0,1,2,9,10,11,12] Gq23_n1) .none) (.seq .none (.seq (.seq (.cut 0 [0,1,2,9,10,11,14] Gq23_n2) .none) (.seq .none (.seq .none (.seq .none (.seq (.cut 0 [1,10,15,16,17,18] Gq23_n3) .none)))))))))))))))))
theorem annq23_ok : AnnOk Tryz.prog 125 bq23 annq23 := ⟨(annOk_none _ _ _),⟨(annOk_none _ _ _),⟨(annOk_none _ _ _),⟨(annOk_none _ _ _),⟨(annOk_none _ _ _),⟨(annOk_none _ _ _),⟨(annOk_none _ _ _),⟨(annOk_none _ _ _),⟨⟨Gq23_n0_ok,(annOk_none _ _ _)⟩,⟨(annOk_none _ _ _),⟨⟨Gq23_n1_ok,(annOk_none _ _ _)⟩,⟨(annOk_none _ _ _),⟨⟨Gq23_n2_ok,(annOk_none _ _ _)⟩,⟨(annOk_none _ _ _),⟨(annOk_none _ _ _),⟨(annOk_none _ _ _),⟨Gq23_n3_ok,(annOk_none _ _ _)⟩⟩⟩⟩⟩⟩⟩⟩⟩⟩⟩⟩⟩⟩⟩⟩⟩
abbrev Aq23 := (Int) × (List UInt8) × (Int)
abbrev Yq23 := (Bool)
def fnq23 {β : Type} : Aq23 → (Yq23 → Option β) → Option β := fun (a0,a1,a2) exit => (bindO (fnDlaw20_works ()) fun _ => (bif decide ((↑(List.length a1) : Int) > (3000 : Int)) then (exit (true)) else (bindO (fnDlaw16_Begun9 ((9 : Int),(2 : Int),(24 : Int))) fun _ => (bindO (fnDq15 (a0,a1,(35 : Int),(24 : Int),(2 : Int),(0 : Int),(25 : Int),(0 : Int),true,false,(33 : Int),(0 : Int),false,(35 : Int),(2 : Int),(37 : Int),(22 : Int),R7.sure9,[],[],[],[],[])) (unP fun r o10 => (bindO (nodeDq23_n0 (a0,a1,a2,IntKind.wrap .i64 (Int.tdiv (↑(List.length a1) : Int) (64 : Int)),r,o10)) fun t50 => (bif t50 then (exit (r == (12 : Int))) else (bindO (fnDq25 ((9 : Int),(2 : Int),(24 : Int))) fun r_2 => (bindO (nodeDq23_n1 (a0,a1,a2,IntKind.wrap .i64 (Int.tdiv (↑(List.length a1) : Int) (64 : Int)),r,r_2,o10)) fun t71 => (bif t71 then (exit (false)) else (bindO (fnDq14 (a0,a2,(35 : Int),(24 : Int),(2 : Int),(0 : Int),(25 : Int),(0 : Int),true,false,(33 : Int),(0 : Int),false,(35 : Int),(2 : Int),(37 : Int),(22 : Int),R7.sure9,[],[],[],[],o10)) (unP fun r_0 => unP fun r_1 => unP fun o1_3 o1_6 => (bindO (nodeDq23_n2 (a0,a1,a2,IntKind.wrap .i64 (Int.tdiv (↑(List.length a1) : Int) (64 : Int)),r,r_1,o1_3,o1_6,o10)) fun t84 => (bif t84 then (exit (r_1 == (3 : Int))) else (bif r != (0 : Int) then (exit (true)) else (bindO (fnDq14 (a0,IntKind.wrap .i64 (Int.tdiv (↑(List.length a1) : Int) (64 : Int)),(35 : Int),(24 : Int),(2 : Int),(0 : Int),(25 : Int),(0 : Int),true,false,o1_3,(0 : Int),o1_6,(35 : Int),(2 : Int),(37 : Int),(22 : Int),R7.sure9,[],[],[],[],o10)) (unP fun r_0_2 => unP fun r_1_2 => unP fun o1_3_2 o1_6_2 => (bindO (fnDq14 (IntKind.wrap .i64 (IntKind.wrap .i64 (a0 + IntKind.wrap .i64 (Int.tdiv (↑(List.length a1) : Int) (64 : Int))) - (1 : Int)),(1 : Int),(35 : Int),(24 : Int),(2 : Int),(0 : Int),(25 : Int),(0 : Int),true,false,o1_3_2,(0 : Int),o1_6_2,(35 : Int),(2 : Int),(37 : Int),(22 : Int),R7.sure9,[],[],[],[],o10)) (unP fun r_0_3 => unP fun r_1_3 => unP fun o1_3_3 o1_6_3 => (bindO (nodeDq23_n3 (a1,IntKind.wrap .i64 (Int.tdiv (↑(List.length a1) : Int) (64 : Int)),r_0_2,r_1_2,r_0_3,r_1_3)) fun t6 => (exit (t6))))))))))))))))))))))
def fnDq23 (a : Aq23) : Option Yq23 := fnq23 a some
theorem fnq23_nat (a : Aq23) (k : Yq23 → Ans) : fnq23 a k = bindO (fnDq23 a) k := by
  obtain ⟨a0,a1,a2⟩ := a
  simp only [fnDq23,fnq23,bindO_cond,bindO_assoc,bindO_none,bindO_pure,bindO_elim,bindO_unP,bindO_empty]
def argsq23 : Aq23 → List AV × List AE.Obj := fun (a0,a1,a2) => ([.int .i64 a0,.str a1,.int .i64 a2],[])
def decPAq23 (l : List AV) (H : List AE.Obj) : Option {a : Aq23 // (l,H) = argsq23 a} := match l,H with
  | [.int .i64 a0,.str a1,.int .i64 a2],[] => some ⟨(a0,a1,a2),rfl⟩
  | _,_ => none
def decAq23 (l : List AV) (H : List AE.Obj) : Option Aq23 := pk (decPAq23 l H)
theorem decAq23_ok (l : List AV) (H : List AE.Obj) (a : Aq23) (h : decAq23 l H = some a) : (l,H) = argsq23 a := pk_ok (o := decPAq23 l H) h
def outq23 : Aq23 → (AV → List AE.Obj → Ans) → Yq23 → Ans := fun (a0,a1,a2) K => fun r_y => K (.bool r_y) []
theorem fnq23_ok (a : Aq23) (K : AV → List AE.Obj → Ans) : fnE Tryz.tab envq23 noHint 0 70 4 Tryz.f4.ntmps Tryz.f4.results.toList annq23 bq23 (argsq23 a).1 (argsq23 a).2 K = fnq23 a (outq23 a K) := by kernel_rfl
def vFq23 (a : Aq23) (K : AV → List AE.Obj → Ans) : Ans := bindO (fnDq23 a) fun y => outq23 a K y
def Fq23 : List AV → List AE.Obj → (AV → List AE.Obj → Ans) → Ans := fun l H K => bindO (decAq23 l H) fun a => vFq23 a K
theorem Fq23_ok : FuncOk Tryz.prog 4 Fq23 := func_mkD (hint := noHint) (d := 0) (n := 70) mixed tabOk envq23Ok Tryz.func4 (bodySome (by kernel_rfl)) (by decide +kernel) annq23_ok decAq23_ok fnq23_ok fnq23_nat
end Go.Proofs.R7R

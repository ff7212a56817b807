/- What the functions that LogrecBackSaid reaches compute: part 2. -/
import Derived.Test.YtbhnbhhlmfdepaaAe4
import Derived.Test.YtbhnbhhlmfdepaaProg
import Derived.Test.YtbhnbhhlmfdepaaChecked
import Derived.Eval
import Derived.Shelf.Strings.Builder1
import Derived.Shelf.Strings.Builder2
import Derived.Shelf.Strings.BuilderF
import Derived.Shelf.Strings.Prefix
import Derived.Shelf.Bits.Mul64
import Derived.Shelf.Strings.Repeat
set_option linter.unusedVariables false
set_option linter.unusedSimpArgs false
namespace Go.Proofs
instance Try.bt : Go.AE.BT := ⟨5, 81⟩
def Try.tab : Go.AE.Tab := [
  (1, ⟨.sc, 1, 8, [.nilf], none⟩),
  (2, ⟨.sc, 1, 8, [.int .i64 0], some (.int .i64)⟩),
  (3, ⟨.sc, 1, 8, [.int .i64 0], some (.int .i64)⟩),
  (4, ⟨.sc, 1, 1, [.bool false], some .bool⟩),
  (5, ⟨.sc, 1, 1, [.int .u8 0], some (.int .u8)⟩),
  (7, ⟨.struct [(2, 0), (3, 1), (4, 2), (6, 3)], 4, 24, [.int .i64 0, .int .i64 0, .bool false, .int .u8 0], some (.st (.pair (.int .i64) (.pair (.int .i64) (.pair .bool (.int .u8)))))⟩),
  (9, ⟨.sc, 1, 16, [.str []], some .str⟩),
  (12, ⟨.sc, 1, 8, [.int .u64 0], some (.int .u64)⟩),
  (20, ⟨.sc, 1, 16, [.nili], none⟩),
  (21, ⟨.sc, 1, 4, [.int .i32 0], some (.int .i32)⟩),
  (22, ⟨.struct [(3, 0), (3, 1)], 2, 16, [.int .i64 0, .int .i64 0], some (.st (.pair (.int .i64) (.int .i64)))⟩),
  (23, ⟨.struct [(3, 0), (3, 1)], 2, 16, [.int .i64 0, .int .i64 0], some (.st (.pair (.int .i64) (.int .i64)))⟩),
  (24, ⟨.struct [(23, 0), (3, 2)], 3, 24, [.int .i64 0, .int .i64 0, .int .i64 0], some (.st (.pair (.pair (.int .i64) (.int .i64)) (.int .i64)))⟩),
  (25, ⟨.struct [(23, 0), (3, 2)], 3, 24, [.int .i64 0, .int .i64 0, .int .i64 0], some (.st (.pair (.pair (.int .i64) (.int .i64)) (.int .i64)))⟩),
  (26, ⟨.array 2 25, 6, 48, [.int .i64 0, .int .i64 0, .int .i64 0, .int .i64 0, .int .i64 0, .int .i64 0], some (.st (.pair (.pair (.pair (.int .i64) (.int .i64)) (.int .i64)) (.pair (.pair (.int .i64) (.int .i64)) (.int .i64))))⟩),
  (27, ⟨.sc, 1, 8, [.nilf], none⟩),
  (28, ⟨.sc, 1, 8, [.int .i64 0], some (.int .i64)⟩),
  (30, ⟨.sc, 1, 8, [.nilf], none⟩),
  (31, ⟨.sc, 1, 8, [.nilf], none⟩),
  (32, ⟨.sc, 1, 8, [.nilf], none⟩),
  (34, ⟨.sc, 1, 8, [.nilf], none⟩),
  (35, ⟨.sc, 1, 8, [.nilf], none⟩),
  (36, ⟨.array 4 5, 4, 4, [.int .u8 0, .int .u8 0, .int .u8 0, .int .u8 0], some (.st (.pair (.int .u8) (.pair (.int .u8) (.pair (.int .u8) (.int .u8)))))⟩),
  (37, ⟨.slice 5, 1, 24, [.nils], some (.list (.int .u8))⟩),
  (38, ⟨.sc, 1, 8, [.int .u64 0], some (.int .u64)⟩),
  (39, ⟨.sc, 1, 8, [.nilf], none⟩),
  (40, ⟨.struct [(3, 0), (3, 1), (3, 2)], 3, 24, [.int .i64 0, .int .i64 0, .int .i64 0], some (.st (.pair (.int .i64) (.pair (.int .i64) (.int .i64))))⟩),
  (41, ⟨.struct [(3, 0), (3, 1), (3, 2)], 3, 24, [.int .i64 0, .int .i64 0, .int .i64 0], some (.st (.pair (.int .i64) (.pair (.int .i64) (.int .i64))))⟩),
  (42, ⟨.sc, 1, 8, [.nilf], none⟩),
  (43, ⟨.struct [(3, 0), (3, 1), (3, 2)], 3, 24, [.int .i64 0, .int .i64 0, .int .i64 0], some (.st (.pair (.int .i64) (.pair (.int .i64) (.int .i64))))⟩),
  (44, ⟨.sc, 1, 8, [.nilf], none⟩),
  (45, ⟨.sc, 1, 8, [.nilf], none⟩),
  (46, ⟨.sc, 1, 8, [.nilf], none⟩),
  (48, ⟨.sc, 1, 8, [.nilf], none⟩),
  (50, ⟨.sc, 1, 8, [.nilf], none⟩),
  (51, ⟨.sc, 1, 8, [.nilf], none⟩),
  (52, ⟨.sc, 1, 8, [.nilf], none⟩),
  (53, ⟨.sc, 1, 8, [.nilf], none⟩),
  (54, ⟨.sc, 1, 8, [.nilf], none⟩),
  (55, ⟨.slice 78, 1, 24, [.nils], some (.list (.st (.pair (.int .i64) .str)))⟩),
  (56, ⟨.sc, 1, 8, [.nilf], none⟩),
  (57, ⟨.sc, 1, 8, [.nilf], none⟩),
  (58, ⟨.sc, 1, 8, [.nilf], none⟩),
  (59, ⟨.sc, 1, 8, [.nilf], none⟩),
  (61, ⟨.sc, 1, 8, [.nilf], none⟩),
  (63, ⟨.sc, 1, 8, [.nilf], none⟩),
  (64, ⟨.sc, 1, 8, [.nilf], none⟩),
  (65, ⟨.sc, 1, 8, [.nilf], none⟩),
  (66, ⟨.sc, 1, 8, [.nilf], none⟩),
  (67, ⟨.sc, 1, 8, [.nilf], none⟩),
  (68, ⟨.sc, 1, 8, [.nilf], none⟩),
  (69, ⟨.sc, 1, 8, [.nilf], none⟩),
  (70, ⟨.sc, 1, 8, [.nilf], none⟩),
  (71, ⟨.ptr 93, 1, 8, [.nilp], none⟩),
  (72, ⟨.sc, 1, 8, [.nilf], none⟩),
  (73, ⟨.sc, 1, 8, [.nilf], none⟩),
  (74, ⟨.sc, 1, 8, [.nilf], none⟩),
  (75, ⟨.sc, 1, 8, [.nilf], none⟩),
  (76, ⟨.slice 9, 1, 24, [.nils], some (.list .str)⟩),
  (77, ⟨.struct [(3, 0), (9, 1)], 2, 24, [.int .i64 0, .str []], some (.st (.pair (.int .i64) .str))⟩),
  (78, ⟨.struct [(3, 0), (9, 1)], 2, 24, [.int .i64 0, .str []], some (.st (.pair (.int .i64) .str))⟩),
  (79, ⟨.ptr 81, 1, 8, [.nilp], none⟩),
  (80, ⟨.struct [(79, 0), (37, 1)], 2, 32, [.nilp, .nils], none⟩),
  (81, ⟨.struct [(79, 0), (37, 1)], 2, 32, [.nilp, .nils], none⟩),
  (82, ⟨.sc, 1, 16, [.nili], none⟩),
  (83, ⟨.sc, 1, 16, [.nili], none⟩),
  (85, ⟨.sc, 1, 8, [.nilf], none⟩),
  (86, ⟨.sc, 1, 8, [.nilf], none⟩),
  (87, ⟨.sc, 1, 8, [.nilf], none⟩),
  (88, ⟨.sc, 1, 8, [.nilf], none⟩),
  (89, ⟨.sc, 1, 8, [.nilf], none⟩),
  (90, ⟨.sc, 1, 8, [.nilf], none⟩),
  (91, ⟨.sc, 1, 8, [.nilf], none⟩),
  (92, ⟨.struct [(9, 0), (28, 1)], 2, 24, [.str [], .int .i64 0], some (.st (.pair .str (.int .i64)))⟩),
  (93, ⟨.struct [(9, 0), (28, 1)], 2, 24, [.str [], .int .i64 0], some (.st (.pair .str (.int .i64)))⟩),
  (94, ⟨.sc, 1, 8, [.nilf], none⟩),
  (95, ⟨.sc, 1, 8, [.nilf], none⟩),
  (96, ⟨.sc, 1, 8, [.int .u64 0], some (.int .u64)⟩),
  (97, ⟨.ptr 5, 1, 8, [.nilp], none⟩),
  (98, ⟨.sc, 1, 8, [.nilf], none⟩),
  (100, ⟨.sc, 1, 8, [.nilf], none⟩),
  (101, ⟨.sc, 1, 8, [.nilf], none⟩),
  (102, ⟨.sc, 1, 8, [.nilf], none⟩),
  (103, ⟨.ptr 114, 1, 8, [.nilp], none⟩),
  (104, ⟨.sc, 1, 8, [.nilf], none⟩),
  (105, ⟨.sc, 1, 8, [.nilf], none⟩),
  (107, ⟨.sc, 1, 8, [.nilf], none⟩),
  (108, ⟨.sc, 1, 4, [.int .u32 0], some (.int .u32)⟩),
  (110, ⟨.sc, 1, 8, [.nilf], none⟩),
  (112, ⟨.sc, 1, 8, [.nilf], none⟩),
  (113, ⟨.struct [(108, 0)], 1, 4, [.int .u32 0], some (.st (.int .u32))⟩),
  (114, ⟨.struct [(108, 0)], 1, 4, [.int .u32 0], some (.st (.int .u32))⟩),
  (115, ⟨.sc, 1, 8, [.nilf], none⟩),
  (116, ⟨.sc, 1, 8, [.nilf], none⟩),
  (124, ⟨.sc, 1, 8, [.nilf], none⟩)]
end Go.Proofs
namespace Go.Proofs.R2
open Go Go.AE
theorem tabOk : TabOk Try.prog Try.tab := tabOk_of_check (by kernel_rfl)
theorem mixed : Try.prog.follows .mixedOrders = true := Checked.mixed Try.checked
end Go.Proofs.R2
namespace Go.Proofs
open Go.Shelf
def Try.lays105_ren : Go.Shelf.Ren := ⟨fun | 105 => 63 | 212 => 72 | 99 => 73 | 165 => 74 | 166 => 55 | 170 => 75 | 169 => 57 | 263 => 80 | 264 => 81 | 206 => 82 | 240 => 70 | 241 => 83 | 276 => 79 | 277 => 85 | n => n, fun | 9 => 9 | 3 => 3 | 4 => 4 | 20 => 20 | 0 => 0 | 46 => 96 | 109 => 99 | 5 => 5 | 72 => 81 | 76 => 84 | 51 => 108 | 146 => 109 | 53 => 38 | 148 => 111 | 70 => 79 | 37 => 37 | 75 => 83 | 127 => 97 | 164 => 106 | 80 => 87 | n => n, fun | n => n⟩
theorem Try.lays105 : Go.Proofs.Lays.n105 Try.prog Try.lays105_ren := {
  mixed := by kernel_rfl
  f99 := Try.func73.trans (congrArg some (by kernel_rfl))
  f105 := Try.func63.trans (congrArg some (by kernel_rfl))
  f165 := Try.func74.trans (congrArg some (by kernel_rfl))
  f166 := Try.func55.trans (congrArg some (by kernel_rfl))
  f169 := Try.func57.trans (congrArg some (by kernel_rfl))
  f170 := Try.func75.trans (congrArg some (by kernel_rfl))
  f206 := Try.func82.trans (congrArg some (by kernel_rfl))
  f212 := Try.func72.trans (congrArg some (by kernel_rfl))
  f240 := Try.func70.trans (congrArg some (by kernel_rfl))
  f241 := Try.func83.trans (congrArg some (by kernel_rfl))
  f263 := Try.func80.trans (congrArg some (by kernel_rfl))
  f264 := Try.func81.trans (congrArg some (by kernel_rfl))
  f276 := Try.func79.trans (congrArg some (by kernel_rfl))
  f277 := Try.func85.trans (congrArg some (by kernel_rfl))
  t0 := Try.underlying0
  a0 := Try.isAgg0
  z0 := Try.sizeOf0
  v0 := Try.zeroValue0
  t3 := Try.underlying3
  a3 := Try.isAgg3
  z3 := Try.sizeOf3
  v3 := Try.zeroValue3
  t4 := Try.underlying4
  a4 := Try.isAgg4
  z4 := Try.sizeOf4
  v4 := Try.zeroValue4
  t5 := Try.underlying5
  a5 := Try.isAgg5
  z5 := Try.sizeOf5
  v5 := Try.zeroValue5
  t9 := Try.underlying9
  a9 := Try.isAgg9
  z9 := Try.sizeOf9
  v9 := Try.zeroValue9
  t20 := Try.underlying20
  a20 := Try.isAgg20
  z20 := Try.sizeOf20
  v20 := Try.zeroValue20
  t37 := Try.underlying37
  a37 := Try.isAgg37
  z37 := Try.sizeOf37
  v37 := Try.zeroValue37
  t46 := Try.underlying96
  a46 := Try.isAgg96
  z46 := Try.sizeOf96
  v46 := Try.zeroValue96
  t51 := Try.underlying108
  a51 := Try.isAgg108
  z51 := Try.sizeOf108
  v51 := Try.zeroValue108
  t53 := Try.underlying38
  a53 := Try.isAgg38
  z53 := Try.sizeOf38
  v53 := Try.zeroValue38
  t70 := Try.underlying79
  a70 := Try.isAgg79
  z70 := Try.sizeOf79
  v70 := Try.zeroValue79
  t72 := Try.underlying81
  a72 := Try.isAgg81
  z72 := Try.sizeOf81
  v72 := Try.zeroValue81
  t75 := Try.underlying83
  a75 := Try.isAgg83
  z75 := Try.sizeOf83
  v75 := Try.zeroValue83
  t76 := Try.underlying84
  a76 := Try.isAgg84
  z76 := Try.sizeOf84
  v76 := Try.zeroValue84
  t109 := Try.underlying99
  a109 := Try.isAgg99
  z109 := Try.sizeOf99
  v109 := Try.zeroValue99
  t127 := Try.underlying97
  a127 := Try.isAgg97
  z127 := Try.sizeOf97
  v127 := Try.zeroValue97
  t146 := Try.underlying109
  a146 := Try.isAgg109
  z146 := Try.sizeOf109
  v146 := Try.zeroValue109
  t148 := Try.underlying111
  a148 := Try.isAgg111
  z148 := Try.sizeOf111
  v148 := Try.zeroValue111
  t164 := Try.underlying106
  a164 := Try.isAgg106
  z164 := Try.sizeOf106
  v164 := Try.zeroValue106 }
theorem Try.Builder_Extra_105 : Builder.Extra Try.prog Try.lays105_ren := {
  sizeBuilder := by kernel_rfl
  liesBuilder := by kernel_rfl
  t5 := Try.underlying5
  a5 := Try.isAgg5
  z5 := Try.sizeOf5
  v5 := Try.zeroValue5
  infoByte := by kernel_rfl
  cellsByte := by kernel_rfl
  sizeByte := by kernel_rfl
  neB5 := by decide }
open Go.RowKit Go.Lib in
theorem Try.strings_Repeat (s : ByteArray) (c : Nat) (w : World) (hc : c ≤ 9223372036854775807) (hlen : s.size * c ≤ 140737488355328) :
    Calls Try.prog 63 #[.string s, .int .i64 c] w fun e w' => e = .returned (.string ⟨(Lib.repeatL s.data.toList c).toArray⟩) ∧ Below w.heap.size w w' := Any.strings_Repeat Try.lays105 Try.Builder_Extra_105 s c w hc hlen
end Go.Proofs
namespace Go.Proofs.R2
open Go Go.AE
theorem Fstrings_Repeat_ok : PureOk Try.prog 63 Fstrings_Repeat :=
  Fstrings_Repeat_of (entered_of Try.func63 (by kernel_rfl) (by decide +kernel)) fun s c w h1 h2 => Try.strings_Repeat s c w h1 h2
theorem FBuilder_copyCheck_ok : FuncOk Try.prog 70 FBuilder_copyCheck :=
  FBuilder_copyCheck_of (ρ := Try.lays105_ren) { Try.lays105 with } Try.Builder_Extra_105.toX72 rfl (entered_of Try.func70 (by kernel_rfl) (by decide +kernel))
theorem FBuilder_String_ok : FuncOk Try.prog 57 FBuilder_String :=
  FBuilder_String_of (ρ := Try.lays105_ren) { Try.lays105 with } Try.Builder_Extra_105 rfl (entered_of Try.func57 (by kernel_rfl) (by decide +kernel))
theorem FBuilder_StringAgain_ok : FuncOk Try.prog 57 FBuilder_StringAgain :=
  FBuilder_StringAgain_of (ρ := Try.lays105_ren) { Try.lays105 with } Try.Builder_Extra_105 rfl (entered_of Try.func57 (by kernel_rfl) (by decide +kernel))
end Go.Proofs.R2
namespace Go.Proofs.R2
open Go Go.AE
--@ logrec_Check_1
noncomputable def envlogrec_Check_1 : Env := []
theorem envlogrec_Check_1Ok : EnvOk Try.prog envlogrec_Check_1 := EnvOk.nil
noncomputable def blogrec_Check_1 : Code := Try.f59.body.getD .skip
noncomputable def annlogrec_Check_1 : Ann := .none
theorem annlogrec_Check_1_ok : AnnOk Try.prog 9 blogrec_Check_1 annlogrec_Check_1 := (annOk_none _ _ _)
abbrev Alogrec_Check_1 := (Int) × (List UInt8) × (Int) × (List UInt8)
abbrev Ylogrec_Check_1 := (Bool)
def fnlogrec_Check_1 {β : Type} : Alogrec_Check_1 → (Ylogrec_Check_1 → Option β) → Option β := fun (a0_0, a0_1, o0_0, o0_1) exit => (exit (a0_0 == o0_0))
def fnDlogrec_Check_1 (a : Alogrec_Check_1) : Option Ylogrec_Check_1 := fnlogrec_Check_1 a some
theorem fnlogrec_Check_1_nat (a : Alogrec_Check_1) (k : Ylogrec_Check_1 → Ans) : fnlogrec_Check_1 a k = bindO (fnDlogrec_Check_1 a) k := by
  obtain ⟨a0_0, a0_1, o0_0, o0_1⟩ := a
  simp only [fnDlogrec_Check_1, fnlogrec_Check_1, bindO_cond, bindO_assoc, bindO_none, bindO_pure, bindO_elim, bindO_unP]
def argslogrec_Check_1 : Alogrec_Check_1 → List AV × List AE.Obj := fun (a0_0, a0_1, o0_0, o0_1) => ([AV.agg [AV.int IntKind.i64 a0_0, AV.str a0_1], AV.ptr 0 0], [AE.Obj.cells [AV.int IntKind.i64 o0_0, AV.str o0_1]])
def decAlogrec_Check_1 (l : List AV) (H : List AE.Obj) : Option Alogrec_Check_1 := match l, H with
  | [AV.agg [AV.int IntKind.i64 a0_0, AV.str a0_1], AV.ptr 0 0], [AE.Obj.cells [AV.int IntKind.i64 o0_0, AV.str o0_1]] => some (a0_0, a0_1, o0_0, o0_1)
  | _, _ => none
theorem decAlogrec_Check_1_ok (l : List AV) (H : List AE.Obj) (a : Alogrec_Check_1) (h : decAlogrec_Check_1 l H = some a) : (l, H) = argslogrec_Check_1 a := by
  unfold decAlogrec_Check_1 at h
  split at h
  · cases h; rfl
  · cases h
def outlogrec_Check_1 : Alogrec_Check_1 → (AV → List AE.Obj → Ans) → Ylogrec_Check_1 → Ans := fun (a0_0, a0_1, o0_0, o0_1) K => fun r_y => K (AV.bool r_y) [AE.Obj.cells [AV.int IntKind.i64 o0_0, AV.str o0_1]]
theorem fnlogrec_Check_1_ok (a : Alogrec_Check_1) (K : AV → List AE.Obj → Ans) : fnE Try.tab envlogrec_Check_1 noHint 0 70 59 Try.f59.ntmps Try.f59.results.toList annlogrec_Check_1 blogrec_Check_1 (argslogrec_Check_1 a).1 (argslogrec_Check_1 a).2 K = fnlogrec_Check_1 a (outlogrec_Check_1 a K) := by kernel_rfl
def vFlogrec_Check_1 (a : Alogrec_Check_1) (K : AV → List AE.Obj → Ans) : Ans := bindO (fnDlogrec_Check_1 a) fun y => outlogrec_Check_1 a K y
def Flogrec_Check_1 : List AV → List AE.Obj → (AV → List AE.Obj → Ans) → Ans := fun l H K => bindO (decAlogrec_Check_1 l H) fun a => vFlogrec_Check_1 a K
theorem Flogrec_Check_1_ok : FuncOk Try.prog 59 Flogrec_Check_1 := func_mkD (hint := noHint) (d := 0) (n := 70) mixed tabOk envlogrec_Check_1Ok Try.func59 (bodySome (by kernel_rfl)) (by decide +kernel) annlogrec_Check_1_ok decAlogrec_Check_1_ok fnlogrec_Check_1_ok fnlogrec_Check_1_nat
--@ slices_IndexFunc_api_Sector_api_Sector
noncomputable def envslices_IndexFunc_api_Sector_api_Sector : Env := [(59, .func Flogrec_Check_1)]
theorem envslices_IndexFunc_api_Sector_api_SectorOk : EnvOk Try.prog envslices_IndexFunc_api_Sector_api_Sector := EnvOk.cons Flogrec_Check_1_ok (EnvOk.nil)
noncomputable def bslices_IndexFunc_api_Sector_api_Sector : Code := Try.f71.body.getD .skip
noncomputable def Lslices_IndexFunc_api_Sector_api_Sector_n0 : Code := codeAt [1, 0, 1, 0, 0] bslices_IndexFunc_api_Sector_api_Sector
noncomputable def annLslices_IndexFunc_api_Sector_api_Sector_n0 : Ann := .at 1 [0, 1, 7, 8] (.loop .none)
theorem annLslices_IndexFunc_api_Sector_api_Sector_n0_ok : AnnOk Try.prog 19 (.loop Lslices_IndexFunc_api_Sector_api_Sector_n0) annLslices_IndexFunc_api_Sector_api_Sector_n0 := annOk_at (annOk_none _ _ _)
abbrev Islices_IndexFunc_api_Sector_api_Sector_n0 := (List (Int × List UInt8)) × (Int) × (Int) × (List UInt8)
abbrev Yslices_IndexFunc_api_Sector_api_Sector_n0 := ((Int)) ⊕ (Unit)
abbrev Vslices_IndexFunc_api_Sector_api_Sector_n0 := (Int)
def Sslices_IndexFunc_api_Sector_api_Sector_n0 : Islices_IndexFunc_api_Sector_api_Sector_n0 → Vslices_IndexFunc_api_Sector_api_Sector_n0 → St := fun (t0, t7, o0_0, o0_1) t8 => { env := [(0, AV.ro (Ty.st (Ty.pair (Ty.int IntKind.i64) Ty.str)) t0), (1, AV.fn (Fn.func 59) [] [AV.ptr 0 0]), (7, AV.int IntKind.i64 t7), (8, AV.int IntKind.i64 t8)], stk := [[(0, AV.ptr 0 0)]], H := [AE.Obj.cells [AV.int IntKind.i64 o0_0, AV.str o0_1]], blk := 290816 }
def decslices_IndexFunc_api_Sector_api_Sector_n0 (s : St) : Option (Islices_IndexFunc_api_Sector_api_Sector_n0 × Vslices_IndexFunc_api_Sector_api_Sector_n0) := match s with
  | { env := [(0, AV.ro (Ty.st (Ty.pair (Ty.int IntKind.i64) Ty.str)) t0), (1, AV.fn (Fn.func 59) [] [AV.ptr 0 0]), (7, AV.int IntKind.i64 t7), (8, AV.int IntKind.i64 t8)], stk := [[(0, AV.ptr 0 0)]], H := [AE.Obj.cells [AV.int IntKind.i64 o0_0, AV.str o0_1]], blk := 290816 } => some ((t0, t7, o0_0, o0_1), t8)
  | _ => none
theorem decslices_IndexFunc_api_Sector_api_Sector_n0_ok (s : St) (x : Islices_IndexFunc_api_Sector_api_Sector_n0 × Vslices_IndexFunc_api_Sector_api_Sector_n0) (h : decslices_IndexFunc_api_Sector_api_Sector_n0 s = some x) : s = Sslices_IndexFunc_api_Sector_api_Sector_n0 x.1 x.2 := by
  unfold decslices_IndexFunc_api_Sector_api_Sector_n0 at h
  split at h
  · cases h; rfl
  · cases h
def outslices_IndexFunc_api_Sector_api_Sector_n0 : Islices_IndexFunc_api_Sector_api_Sector_n0 → (Ex → St → Ans) → Yslices_IndexFunc_api_Sector_api_Sector_n0 → Ans := fun (t0, t7, o0_0, o0_1) K => (Sum.elim (fun t4_y => K (Ex.ret) { env := [(4, AV.int IntKind.i64 t4_y)], stk := [[(0, AV.ptr 0 0)]], H := [AE.Obj.cells [AV.int IntKind.i64 o0_0, AV.str o0_1]], blk := 290817 }) (fun _ => K (Ex.exit 0) { env := [], stk := [[(0, AV.ptr 0 0)]], H := [AE.Obj.cells [AV.int IntKind.i64 o0_0, AV.str o0_1]], blk := 290816 }))
def stepslices_IndexFunc_api_Sector_api_Sector_n0 {β : Type} : Islices_IndexFunc_api_Sector_api_Sector_n0 → Vslices_IndexFunc_api_Sector_api_Sector_n0 → (Vslices_IndexFunc_api_Sector_api_Sector_n0 → Option β) → (Yslices_IndexFunc_api_Sector_api_Sector_n0 → Option β) → Option β := fun (t0, t7, o0_0, o0_1) t8 next exit => (bif decide (t8 < t7) then (bindO (nth t0 t8) fun x => (bindO (fnDlogrec_Check_1 (x.fst, x.snd, o0_0, o0_1)) fun r => (bif r then (exit (Sum.inl (t8))) else (next (IntKind.wrap IntKind.i64 (t8 + (1 : Int))))))) else (exit (Sum.inr ())))
def stepDslices_IndexFunc_api_Sector_api_Sector_n0 (i : Islices_IndexFunc_api_Sector_api_Sector_n0) (v : Vslices_IndexFunc_api_Sector_api_Sector_n0) : Option (Vslices_IndexFunc_api_Sector_api_Sector_n0 ⊕ Yslices_IndexFunc_api_Sector_api_Sector_n0) := stepslices_IndexFunc_api_Sector_api_Sector_n0 i v (fun v => some (.inl v)) (fun y => some (.inr y))
theorem stepslices_IndexFunc_api_Sector_api_Sector_n0_nat (i : Islices_IndexFunc_api_Sector_api_Sector_n0) (v : Vslices_IndexFunc_api_Sector_api_Sector_n0) (next : Vslices_IndexFunc_api_Sector_api_Sector_n0 → Ans) (exit : Yslices_IndexFunc_api_Sector_api_Sector_n0 → Ans) : stepslices_IndexFunc_api_Sector_api_Sector_n0 i v next exit = bindO (stepDslices_IndexFunc_api_Sector_api_Sector_n0 i v) (Sum.elim next exit) := by
  obtain ⟨t0, t7, o0_0, o0_1⟩ := i
  obtain z := v
  simp only [stepDslices_IndexFunc_api_Sector_api_Sector_n0, stepslices_IndexFunc_api_Sector_api_Sector_n0, bindO_cond, bindO_assoc, bindO_none, bindO_pure, bindO_elim, bindO_unP, Sum.elim_inl, Sum.elim_inr]
theorem stepslices_IndexFunc_api_Sector_api_Sector_n0_ok (n : Nat) (i : Islices_IndexFunc_api_Sector_api_Sector_n0) (v : Vslices_IndexFunc_api_Sector_api_Sector_n0) (K : Ex → St → Ans) : codeI Try.tab envslices_IndexFunc_api_Sector_api_Sector noHint (codeD Try.tab envslices_IndexFunc_api_Sector_api_Sector noHint 0 64) (n+1) 19 annLslices_IndexFunc_api_Sector_api_Sector_n0 (.loop Lslices_IndexFunc_api_Sector_api_Sector_n0) (weakP 1 (exk [] [4] [(0, [])]) K) (Sslices_IndexFunc_api_Sector_api_Sector_n0 i v) = stepslices_IndexFunc_api_Sector_api_Sector_n0 i v (fun v' => codeI Try.tab envslices_IndexFunc_api_Sector_api_Sector noHint (codeD Try.tab envslices_IndexFunc_api_Sector_api_Sector noHint 0 64) n 19 annLslices_IndexFunc_api_Sector_api_Sector_n0 (.loop Lslices_IndexFunc_api_Sector_api_Sector_n0) (weakP 1 (exk [] [4] [(0, [])]) K) (Sslices_IndexFunc_api_Sector_api_Sector_n0 i v')) (fun y => outslices_IndexFunc_api_Sector_api_Sector_n0 i K y) := by kernel_rfl
theorem GNslices_IndexFunc_api_Sector_api_Sector_n0_ok : CSum Try.prog 19 (.loop Lslices_IndexFunc_api_Sector_api_Sector_n0) (sumL decslices_IndexFunc_api_Sector_api_Sector_n0 stepDslices_IndexFunc_api_Sector_api_Sector_n0 outslices_IndexFunc_api_Sector_api_Sector_n0) := csum_loop mixed tabOk envslices_IndexFunc_api_Sector_api_SectorOk 1 (exk [] [4] [(0, [])]) annLslices_IndexFunc_api_Sector_api_Sector_n0_ok decslices_IndexFunc_api_Sector_api_Sector_n0_ok stepslices_IndexFunc_api_Sector_api_Sector_n0_ok stepslices_IndexFunc_api_Sector_api_Sector_n0_nat
noncomputable def Gslices_IndexFunc_api_Sector_api_Sector_n0 : (Ex → St → Ans) → St → Ans := (sumL decslices_IndexFunc_api_Sector_api_Sector_n0 stepDslices_IndexFunc_api_Sector_api_Sector_n0 outslices_IndexFunc_api_Sector_api_Sector_n0)
theorem Gslices_IndexFunc_api_Sector_api_Sector_n0_ok : CSum Try.prog 19 (.loop Lslices_IndexFunc_api_Sector_api_Sector_n0) Gslices_IndexFunc_api_Sector_api_Sector_n0 := GNslices_IndexFunc_api_Sector_api_Sector_n0_ok
noncomputable def annslices_IndexFunc_api_Sector_api_Sector : Ann := (.seq .none (.seq (.seq .none (.block (.cut 1 [0, 1, 7, 8] Gslices_IndexFunc_api_Sector_api_Sector_n0))) .none))
theorem annslices_IndexFunc_api_Sector_api_Sector_ok : AnnOk Try.prog 19 bslices_IndexFunc_api_Sector_api_Sector annslices_IndexFunc_api_Sector_api_Sector := ⟨(annOk_none _ _ _), ⟨⟨(annOk_none _ _ _), Gslices_IndexFunc_api_Sector_api_Sector_n0_ok⟩, (annOk_none _ _ _)⟩⟩
abbrev Aslices_IndexFunc_api_Sector_api_Sector := (List (Int × List UInt8)) × (Int) × (List UInt8)
abbrev Yslices_IndexFunc_api_Sector_api_Sector := (Int)
def fnslices_IndexFunc_api_Sector_api_Sector {β : Type} : Aslices_IndexFunc_api_Sector_api_Sector → (Yslices_IndexFunc_api_Sector_api_Sector → Option β) → Option β := fun (a0, o0_0, o0_1) exit => (bindO (loopD (stepDslices_IndexFunc_api_Sector_api_Sector_n0 (a0, (↑(List.length a0) : Int), o0_0, o0_1)) FUEL ((0 : Int))) (Sum.elim (fun t4 => (exit (t4))) (fun _ => (exit ((-1 : Int))))))
def fnDslices_IndexFunc_api_Sector_api_Sector (a : Aslices_IndexFunc_api_Sector_api_Sector) : Option Yslices_IndexFunc_api_Sector_api_Sector := fnslices_IndexFunc_api_Sector_api_Sector a some
theorem fnslices_IndexFunc_api_Sector_api_Sector_nat (a : Aslices_IndexFunc_api_Sector_api_Sector) (k : Yslices_IndexFunc_api_Sector_api_Sector → Ans) : fnslices_IndexFunc_api_Sector_api_Sector a k = bindO (fnDslices_IndexFunc_api_Sector_api_Sector a) k := by
  obtain ⟨a0, o0_0, o0_1⟩ := a
  simp only [fnDslices_IndexFunc_api_Sector_api_Sector, fnslices_IndexFunc_api_Sector_api_Sector, bindO_cond, bindO_assoc, bindO_none, bindO_pure, bindO_elim, bindO_unP]
def argsslices_IndexFunc_api_Sector_api_Sector : Aslices_IndexFunc_api_Sector_api_Sector → List AV × List AE.Obj := fun (a0, o0_0, o0_1) => ([AV.ro (Ty.st (Ty.pair (Ty.int IntKind.i64) Ty.str)) a0, AV.fn (Fn.func 59) [] [AV.ptr 0 0]], [AE.Obj.cells [AV.int IntKind.i64 o0_0, AV.str o0_1]])
def decAslices_IndexFunc_api_Sector_api_Sector (l : List AV) (H : List AE.Obj) : Option Aslices_IndexFunc_api_Sector_api_Sector := match l, H with
  | [AV.ro (Ty.st (Ty.pair (Ty.int IntKind.i64) Ty.str)) a0, AV.fn (Fn.func 59) [] [AV.ptr 0 0]], [AE.Obj.cells [AV.int IntKind.i64 o0_0, AV.str o0_1]] => some (a0, o0_0, o0_1)
  | _, _ => none
theorem decAslices_IndexFunc_api_Sector_api_Sector_ok (l : List AV) (H : List AE.Obj) (a : Aslices_IndexFunc_api_Sector_api_Sector) (h : decAslices_IndexFunc_api_Sector_api_Sector l H = some a) : (l, H) = argsslices_IndexFunc_api_Sector_api_Sector a := by
  unfold decAslices_IndexFunc_api_Sector_api_Sector at h
  split at h
  · cases h; rfl
  · cases h
def outslices_IndexFunc_api_Sector_api_Sector : Aslices_IndexFunc_api_Sector_api_Sector → (AV → List AE.Obj → Ans) → Yslices_IndexFunc_api_Sector_api_Sector → Ans := fun (a0, o0_0, o0_1) K => fun r_y => K (AV.int IntKind.i64 r_y) [AE.Obj.cells [AV.int IntKind.i64 o0_0, AV.str o0_1]]
theorem fnslices_IndexFunc_api_Sector_api_Sector_ok (a : Aslices_IndexFunc_api_Sector_api_Sector) (K : AV → List AE.Obj → Ans) : fnE Try.tab envslices_IndexFunc_api_Sector_api_Sector noHint 0 70 71 Try.f71.ntmps Try.f71.results.toList annslices_IndexFunc_api_Sector_api_Sector bslices_IndexFunc_api_Sector_api_Sector (argsslices_IndexFunc_api_Sector_api_Sector a).1 (argsslices_IndexFunc_api_Sector_api_Sector a).2 K = fnslices_IndexFunc_api_Sector_api_Sector a (outslices_IndexFunc_api_Sector_api_Sector a K) := by kernel_rfl
def vFslices_IndexFunc_api_Sector_api_Sector (a : Aslices_IndexFunc_api_Sector_api_Sector) (K : AV → List AE.Obj → Ans) : Ans := bindO (fnDslices_IndexFunc_api_Sector_api_Sector a) fun y => outslices_IndexFunc_api_Sector_api_Sector a K y
def Fslices_IndexFunc_api_Sector_api_Sector : List AV → List AE.Obj → (AV → List AE.Obj → Ans) → Ans := fun l H K => bindO (decAslices_IndexFunc_api_Sector_api_Sector l H) fun a => vFslices_IndexFunc_api_Sector_api_Sector a K
theorem Fslices_IndexFunc_api_Sector_api_Sector_ok : FuncOk Try.prog 71 Fslices_IndexFunc_api_Sector_api_Sector := func_mkD (hint := noHint) (d := 0) (n := 70) mixed tabOk envslices_IndexFunc_api_Sector_api_SectorOk Try.func71 (bodySome (by kernel_rfl)) (by decide +kernel) annslices_IndexFunc_api_Sector_api_Sector_ok decAslices_IndexFunc_api_Sector_api_Sector_ok fnslices_IndexFunc_api_Sector_api_Sector_ok fnslices_IndexFunc_api_Sector_api_Sector_nat
--@ slices_ContainsFunc_api_Sector_api_Sector
noncomputable def envslices_ContainsFunc_api_Sector_api_Sector : Env := [(71, .func Fslices_IndexFunc_api_Sector_api_Sector)]
theorem envslices_ContainsFunc_api_Sector_api_SectorOk : EnvOk Try.prog envslices_ContainsFunc_api_Sector_api_Sector := EnvOk.cons Fslices_IndexFunc_api_Sector_api_Sector_ok (EnvOk.nil)
noncomputable def bslices_ContainsFunc_api_Sector_api_Sector : Code := Try.f58.body.getD .skip
noncomputable def annslices_ContainsFunc_api_Sector_api_Sector : Ann := .none
theorem annslices_ContainsFunc_api_Sector_api_Sector_ok : AnnOk Try.prog 9 bslices_ContainsFunc_api_Sector_api_Sector annslices_ContainsFunc_api_Sector_api_Sector := (annOk_none _ _ _)
abbrev Aslices_ContainsFunc_api_Sector_api_Sector := (List (Int × List UInt8)) × (Int) × (List UInt8)
abbrev Yslices_ContainsFunc_api_Sector_api_Sector := (Bool)
def fnslices_ContainsFunc_api_Sector_api_Sector {β : Type} : Aslices_ContainsFunc_api_Sector_api_Sector → (Yslices_ContainsFunc_api_Sector_api_Sector → Option β) → Option β := fun (a0, o0_0, o0_1) exit => (bindO (fnDslices_IndexFunc_api_Sector_api_Sector (a0, o0_0, o0_1)) fun r => (exit (decide (r ≥ (0 : Int)))))
def fnDslices_ContainsFunc_api_Sector_api_Sector (a : Aslices_ContainsFunc_api_Sector_api_Sector) : Option Yslices_ContainsFunc_api_Sector_api_Sector := fnslices_ContainsFunc_api_Sector_api_Sector a some
theorem fnslices_ContainsFunc_api_Sector_api_Sector_nat (a : Aslices_ContainsFunc_api_Sector_api_Sector) (k : Yslices_ContainsFunc_api_Sector_api_Sector → Ans) : fnslices_ContainsFunc_api_Sector_api_Sector a k = bindO (fnDslices_ContainsFunc_api_Sector_api_Sector a) k := by
  obtain ⟨a0, o0_0, o0_1⟩ := a
  simp only [fnDslices_ContainsFunc_api_Sector_api_Sector, fnslices_ContainsFunc_api_Sector_api_Sector, bindO_cond, bindO_assoc, bindO_none, bindO_pure, bindO_elim, bindO_unP]
def argsslices_ContainsFunc_api_Sector_api_Sector : Aslices_ContainsFunc_api_Sector_api_Sector → List AV × List AE.Obj := fun (a0, o0_0, o0_1) => ([AV.ro (Ty.st (Ty.pair (Ty.int IntKind.i64) Ty.str)) a0, AV.fn (Fn.func 59) [] [AV.ptr 0 0]], [AE.Obj.cells [AV.int IntKind.i64 o0_0, AV.str o0_1]])
def decAslices_ContainsFunc_api_Sector_api_Sector (l : List AV) (H : List AE.Obj) : Option Aslices_ContainsFunc_api_Sector_api_Sector := match l, H with
  | [AV.ro (Ty.st (Ty.pair (Ty.int IntKind.i64) Ty.str)) a0, AV.fn (Fn.func 59) [] [AV.ptr 0 0]], [AE.Obj.cells [AV.int IntKind.i64 o0_0, AV.str o0_1]] => some (a0, o0_0, o0_1)
  | _, _ => none
theorem decAslices_ContainsFunc_api_Sector_api_Sector_ok (l : List AV) (H : List AE.Obj) (a : Aslices_ContainsFunc_api_Sector_api_Sector) (h : decAslices_ContainsFunc_api_Sector_api_Sector l H = some a) : (l, H) = argsslices_ContainsFunc_api_Sector_api_Sector a := by
  unfold decAslices_ContainsFunc_api_Sector_api_Sector at h
  split at h
  · cases h; rfl
  · cases h
def outslices_ContainsFunc_api_Sector_api_Sector : Aslices_ContainsFunc_api_Sector_api_Sector → (AV → List AE.Obj → Ans) → Yslices_ContainsFunc_api_Sector_api_Sector → Ans := fun (a0, o0_0, o0_1) K => fun r_y => K (AV.bool r_y) [AE.Obj.cells [AV.int IntKind.i64 o0_0, AV.str o0_1]]
theorem fnslices_ContainsFunc_api_Sector_api_Sector_ok (a : Aslices_ContainsFunc_api_Sector_api_Sector) (K : AV → List AE.Obj → Ans) : fnE Try.tab envslices_ContainsFunc_api_Sector_api_Sector noHint 0 70 58 Try.f58.ntmps Try.f58.results.toList annslices_ContainsFunc_api_Sector_api_Sector bslices_ContainsFunc_api_Sector_api_Sector (argsslices_ContainsFunc_api_Sector_api_Sector a).1 (argsslices_ContainsFunc_api_Sector_api_Sector a).2 K = fnslices_ContainsFunc_api_Sector_api_Sector a (outslices_ContainsFunc_api_Sector_api_Sector a K) := by kernel_rfl
def vFslices_ContainsFunc_api_Sector_api_Sector (a : Aslices_ContainsFunc_api_Sector_api_Sector) (K : AV → List AE.Obj → Ans) : Ans := bindO (fnDslices_ContainsFunc_api_Sector_api_Sector a) fun y => outslices_ContainsFunc_api_Sector_api_Sector a K y
def Fslices_ContainsFunc_api_Sector_api_Sector : List AV → List AE.Obj → (AV → List AE.Obj → Ans) → Ans := fun l H K => bindO (decAslices_ContainsFunc_api_Sector_api_Sector l H) fun a => vFslices_ContainsFunc_api_Sector_api_Sector a K
theorem Fslices_ContainsFunc_api_Sector_api_Sector_ok : FuncOk Try.prog 58 Fslices_ContainsFunc_api_Sector_api_Sector := func_mkD (hint := noHint) (d := 0) (n := 70) mixed tabOk envslices_ContainsFunc_api_Sector_api_SectorOk Try.func58 (bodySome (by kernel_rfl)) (by decide +kernel) annslices_ContainsFunc_api_Sector_api_Sector_ok decAslices_ContainsFunc_api_Sector_api_Sector_ok fnslices_ContainsFunc_api_Sector_api_Sector_ok fnslices_ContainsFunc_api_Sector_api_Sector_nat
--@ logrec_Check
noncomputable def envlogrec_Check : Env := [(58, .func Fslices_ContainsFunc_api_Sector_api_Sector)]
theorem envlogrec_CheckOk : EnvOk Try.prog envlogrec_Check := EnvOk.cons Fslices_ContainsFunc_api_Sector_api_Sector_ok (EnvOk.nil)
noncomputable def blogrec_Check : Code := Try.f31.body.getD .skip
noncomputable def Llogrec_Check_n2 : Code := codeAt [1, 1, 0, 1, 0, 0, 1, 1, 0, 0, 1, 0, 0] blogrec_Check
noncomputable def annLlogrec_Check_n2 : Ann := .none
theorem annLlogrec_Check_n2_ok : AnnOk Try.prog 41 Llogrec_Check_n2 annLlogrec_Check_n2 := (annOk_none _ _ _)
abbrev Ilogrec_Check_n2 := (List (Int × List UInt8)) × (Int) × (List (Int × List UInt8)) × (Int) × (Int) × (Int) × (List UInt8)
abbrev Ylogrec_Check_n2 := (Bool)
def Slogrec_Check_n2 : Ilogrec_Check_n2 → St := fun (t0, t3, t13, t14, t15, o0_0, o0_1) => { env := [(0, AV.ro (Ty.st (Ty.pair (Ty.int IntKind.i64) Ty.str)) t0), (3, AV.int IntKind.i64 t3), (4, AV.ptr 0 0), (13, AV.ro (Ty.st (Ty.pair (Ty.int IntKind.i64) Ty.str)) t13), (14, AV.int IntKind.i64 t14), (15, AV.int IntKind.i64 t15)], stk := [[]], H := [AE.Obj.cells [AV.int IntKind.i64 o0_0, AV.str o0_1]], blk := 126979 }
def declogrec_Check_n2 (s : St) : Option Ilogrec_Check_n2 := match s with
  | { env := [(0, AV.ro (Ty.st (Ty.pair (Ty.int IntKind.i64) Ty.str)) t0), (3, AV.int IntKind.i64 t3), (4, AV.ptr 0 0), (13, AV.ro (Ty.st (Ty.pair (Ty.int IntKind.i64) Ty.str)) t13), (14, AV.int IntKind.i64 t14), (15, AV.int IntKind.i64 t15)], stk := [[]], H := [AE.Obj.cells [AV.int IntKind.i64 o0_0, AV.str o0_1]], blk := 126979 } => some (t0, t3, t13, t14, t15, o0_0, o0_1)
  | _ => none
theorem declogrec_Check_n2_ok (s : St) (x : Ilogrec_Check_n2) (h : declogrec_Check_n2 s = some x) : s = Slogrec_Check_n2 x := by
  unfold declogrec_Check_n2 at h
  split at h
  · cases h; rfl
  · cases h
def outlogrec_Check_n2 : Ilogrec_Check_n2 → (Ex → St → Ans) → Ylogrec_Check_n2 → Ans := fun (t0, t3, t13, t14, t15, o0_0, o0_1) K => fun t20_y => K (Ex.norm) { env := [(0, AV.ro (Ty.st (Ty.pair (Ty.int IntKind.i64) Ty.str)) t0), (3, AV.int IntKind.i64 t3), (4, AV.ptr 0 0), (13, AV.ro (Ty.st (Ty.pair (Ty.int IntKind.i64) Ty.str)) t13), (14, AV.int IntKind.i64 t14), (15, AV.int IntKind.i64 t15), (20, AV.bool t20_y)], stk := [[]], H := [AE.Obj.cells [AV.int IntKind.i64 o0_0, AV.str o0_1]], blk := 126979 }
def nodelogrec_Check_n2 {β : Type} : Ilogrec_Check_n2 → (Ylogrec_Check_n2 → Option β) → Option β := fun (t0, t3, t13, t14, t15, o0_0, o0_1) exit => (bif decide (o0_0 < (0 : Int)) then (exit (true)) else (exit (decide (o0_0 ≥ (1000 : Int)))))
def nodeDlogrec_Check_n2 (i : Ilogrec_Check_n2) : Option Ylogrec_Check_n2 := nodelogrec_Check_n2 i some
theorem nodelogrec_Check_n2_nat (i : Ilogrec_Check_n2) (k : Ylogrec_Check_n2 → Ans) : nodelogrec_Check_n2 i k = bindO (nodeDlogrec_Check_n2 i) k := by
  obtain ⟨t0, t3, t13, t14, t15, o0_0, o0_1⟩ := i
  simp only [nodeDlogrec_Check_n2, nodelogrec_Check_n2, bindO_cond, bindO_assoc, bindO_none, bindO_pure, bindO_elim, bindO_unP]
theorem nodelogrec_Check_n2_ok (i : Ilogrec_Check_n2) (K : Ex → St → Ans) : codeI Try.tab envlogrec_Check noHint (codeD Try.tab envlogrec_Check noHint 0 64) 70 41 annLlogrec_Check_n2 Llogrec_Check_n2 (weakP 0 (exk [0, 3, 4, 13, 14, 15, 20] [2] []) K) (Slogrec_Check_n2 i) = nodelogrec_Check_n2 i (outlogrec_Check_n2 i K) := by kernel_rfl
theorem GNlogrec_Check_n2_ok : CSum Try.prog 41 Llogrec_Check_n2 (sumN declogrec_Check_n2 nodeDlogrec_Check_n2 outlogrec_Check_n2) := csum_node mixed tabOk envlogrec_CheckOk 0 (exk [0, 3, 4, 13, 14, 15, 20] [2] []) annLlogrec_Check_n2_ok declogrec_Check_n2_ok nodelogrec_Check_n2_ok nodelogrec_Check_n2_nat
noncomputable def Glogrec_Check_n2 : (Ex → St → Ans) → St → Ans := (sumN declogrec_Check_n2 nodeDlogrec_Check_n2 outlogrec_Check_n2)
theorem Glogrec_Check_n2_ok : CSum Try.prog 41 Llogrec_Check_n2 Glogrec_Check_n2 := GNlogrec_Check_n2_ok
noncomputable def Llogrec_Check_n1 : Code := codeAt [1, 1, 0, 1, 0, 0, 1, 1, 0] blogrec_Check
noncomputable def annLlogrec_Check_n1 : Ann := (.block (.seq .none (.block (.seq (.cut 0 [0, 3, 4, 13, 14, 15] Glogrec_Check_n2) .none))))
theorem annLlogrec_Check_n1_ok : AnnOk Try.prog 41 Llogrec_Check_n1 annLlogrec_Check_n1 := ⟨(annOk_none _ _ _), ⟨Glogrec_Check_n2_ok, (annOk_none _ _ _)⟩⟩
abbrev Ilogrec_Check_n1 := (List (Int × List UInt8)) × (List (Int × List UInt8)) × (Int) × (Int)
abbrev Ylogrec_Check_n1 := ((Int)) ⊕ (Unit)
def Slogrec_Check_n1 : Ilogrec_Check_n1 → St := fun (t0, t13, t14, t15) => { env := [(0, AV.ro (Ty.st (Ty.pair (Ty.int IntKind.i64) Ty.str)) t0), (13, AV.ro (Ty.st (Ty.pair (Ty.int IntKind.i64) Ty.str)) t13), (14, AV.int IntKind.i64 t14), (15, AV.int IntKind.i64 t15)], stk := [[]], H := [], blk := 126977 }
def declogrec_Check_n1 (s : St) : Option Ilogrec_Check_n1 := match s with
  | { env := [(0, AV.ro (Ty.st (Ty.pair (Ty.int IntKind.i64) Ty.str)) t0), (13, AV.ro (Ty.st (Ty.pair (Ty.int IntKind.i64) Ty.str)) t13), (14, AV.int IntKind.i64 t14), (15, AV.int IntKind.i64 t15)], stk := [[]], H := [], blk := 126977 } => some (t0, t13, t14, t15)
  | _ => none
theorem declogrec_Check_n1_ok (s : St) (x : Ilogrec_Check_n1) (h : declogrec_Check_n1 s = some x) : s = Slogrec_Check_n1 x := by
  unfold declogrec_Check_n1 at h
  split at h
  · cases h; rfl
  · cases h
def outlogrec_Check_n1 : Ilogrec_Check_n1 → (Ex → St → Ans) → Ylogrec_Check_n1 → Ans := fun (t0, t13, t14, t15) K => (Sum.elim (fun t2_y => K (Ex.ret) { env := [(2, AV.int IntKind.i64 t2_y)], stk := [[]], H := [], blk := 126979 }) (fun _ => K (Ex.norm) { env := [(0, AV.ro (Ty.st (Ty.pair (Ty.int IntKind.i64) Ty.str)) t0), (13, AV.ro (Ty.st (Ty.pair (Ty.int IntKind.i64) Ty.str)) t13), (14, AV.int IntKind.i64 t14), (15, AV.int IntKind.i64 t15)], stk := [[]], H := [], blk := 126979 }))
def nodelogrec_Check_n1 {β : Type} : Ilogrec_Check_n1 → (Ylogrec_Check_n1 → Option β) → Option β := fun (t0, t13, t14, t15) exit => (bindO (nth t13 t15) fun x => (bindO (nodeDlogrec_Check_n2 (t0, t15, t13, t14, t15, x.fst, x.snd)) fun t20 => (bif t20 then (exit (Sum.inl ((3 : Int)))) else (bif (↑(List.length x.snd) : Int) != (64 : Int) then (exit (Sum.inl ((12 : Int)))) else (bif inR t15 (List.length t0 + (1 : Nat)) then (bindO (fnDslices_ContainsFunc_api_Sector_api_Sector (List.take (Int.toNat t15) t0, x.fst, x.snd)) fun r => (bif r then (exit (Sum.inl ((9 : Int)))) else (exit (Sum.inr ())))) else none)))))
def nodeDlogrec_Check_n1 (i : Ilogrec_Check_n1) : Option Ylogrec_Check_n1 := nodelogrec_Check_n1 i some
theorem nodelogrec_Check_n1_nat (i : Ilogrec_Check_n1) (k : Ylogrec_Check_n1 → Ans) : nodelogrec_Check_n1 i k = bindO (nodeDlogrec_Check_n1 i) k := by
  obtain ⟨t0, t13, t14, t15⟩ := i
  simp only [nodeDlogrec_Check_n1, nodelogrec_Check_n1, bindO_cond, bindO_assoc, bindO_none, bindO_pure, bindO_elim, bindO_unP]
theorem nodelogrec_Check_n1_ok (i : Ilogrec_Check_n1) (K : Ex → St → Ans) : codeI Try.tab envlogrec_Check noHint (codeD Try.tab envlogrec_Check noHint 0 64) 70 41 annLlogrec_Check_n1 Llogrec_Check_n1 (weakP 0 (exk [0, 13, 14, 15] [2] []) K) (Slogrec_Check_n1 i) = nodelogrec_Check_n1 i (outlogrec_Check_n1 i K) := by kernel_rfl
theorem GNlogrec_Check_n1_ok : CSum Try.prog 41 Llogrec_Check_n1 (sumN declogrec_Check_n1 nodeDlogrec_Check_n1 outlogrec_Check_n1) := csum_node mixed tabOk envlogrec_CheckOk 0 (exk [0, 13, 14, 15] [2] []) annLlogrec_Check_n1_ok declogrec_Check_n1_ok nodelogrec_Check_n1_ok nodelogrec_Check_n1_nat
noncomputable def Glogrec_Check_n1 : (Ex → St → Ans) → St → Ans := (sumN declogrec_Check_n1 nodeDlogrec_Check_n1 outlogrec_Check_n1)
theorem Glogrec_Check_n1_ok : CSum Try.prog 41 Llogrec_Check_n1 Glogrec_Check_n1 := GNlogrec_Check_n1_ok
noncomputable def Llogrec_Check_n0 : Code := codeAt [1, 1, 0, 1, 0, 0] blogrec_Check
noncomputable def annLlogrec_Check_n0 : Ann := .at 0 [0, 13, 14, 15] (.loop (.seq .none (.seq .none (.seq (.cut 0 [0, 13, 14, 15] Glogrec_Check_n1) .none))))
theorem annLlogrec_Check_n0_ok : AnnOk Try.prog 41 (.loop Llogrec_Check_n0) annLlogrec_Check_n0 := annOk_at ⟨(annOk_none _ _ _), ⟨(annOk_none _ _ _), ⟨Glogrec_Check_n1_ok, (annOk_none _ _ _)⟩⟩⟩
abbrev Ilogrec_Check_n0 := (List (Int × List UInt8)) × (List (Int × List UInt8)) × (Int)
abbrev Ylogrec_Check_n0 := ((Int)) ⊕ (Unit)
abbrev Vlogrec_Check_n0 := (Int)
def Slogrec_Check_n0 : Ilogrec_Check_n0 → Vlogrec_Check_n0 → St := fun (t0, t13, t14) t15 => { env := [(0, AV.ro (Ty.st (Ty.pair (Ty.int IntKind.i64) Ty.str)) t0), (13, AV.ro (Ty.st (Ty.pair (Ty.int IntKind.i64) Ty.str)) t13), (14, AV.int IntKind.i64 t14), (15, AV.int IntKind.i64 t15)], stk := [[]], H := [], blk := 126977 }
def declogrec_Check_n0 (s : St) : Option (Ilogrec_Check_n0 × Vlogrec_Check_n0) := match s with
  | { env := [(0, AV.ro (Ty.st (Ty.pair (Ty.int IntKind.i64) Ty.str)) t0), (13, AV.ro (Ty.st (Ty.pair (Ty.int IntKind.i64) Ty.str)) t13), (14, AV.int IntKind.i64 t14), (15, AV.int IntKind.i64 t15)], stk := [[]], H := [], blk := 126977 } => some ((t0, t13, t14), t15)
  | _ => none
theorem declogrec_Check_n0_ok (s : St) (x : Ilogrec_Check_n0 × Vlogrec_Check_n0) (h : declogrec_Check_n0 s = some x) : s = Slogrec_Check_n0 x.1 x.2 := by
  unfold declogrec_Check_n0 at h
  split at h
  · cases h; rfl
  · cases h
def outlogrec_Check_n0 : Ilogrec_Check_n0 → (Ex → St → Ans) → Ylogrec_Check_n0 → Ans := fun (t0, t13, t14) K => (Sum.elim (fun t2_y => K (Ex.ret) { env := [(2, AV.int IntKind.i64 t2_y)], stk := [[]], H := [], blk := 126979 }) (fun _ => K (Ex.exit 1) { env := [], stk := [[]], H := [], blk := 126977 }))
def steplogrec_Check_n0 {β : Type} : Ilogrec_Check_n0 → Vlogrec_Check_n0 → (Vlogrec_Check_n0 → Option β) → (Ylogrec_Check_n0 → Option β) → Option β := fun (t0, t13, t14) t15 next exit => (bif decide (t15 < t14) then (bindO (nodeDlogrec_Check_n1 (t0, t13, t14, t15)) (Sum.elim (fun t2 => (exit (Sum.inl (t2)))) (fun _ => (next (IntKind.wrap IntKind.i64 (t15 + (1 : Int))))))) else (exit (Sum.inr ())))
def stepDlogrec_Check_n0 (i : Ilogrec_Check_n0) (v : Vlogrec_Check_n0) : Option (Vlogrec_Check_n0 ⊕ Ylogrec_Check_n0) := steplogrec_Check_n0 i v (fun v => some (.inl v)) (fun y => some (.inr y))
theorem steplogrec_Check_n0_nat (i : Ilogrec_Check_n0) (v : Vlogrec_Check_n0) (next : Vlogrec_Check_n0 → Ans) (exit : Ylogrec_Check_n0 → Ans) : steplogrec_Check_n0 i v next exit = bindO (stepDlogrec_Check_n0 i v) (Sum.elim next exit) := by
  obtain ⟨t0, t13, t14⟩ := i
  obtain z := v
  simp only [stepDlogrec_Check_n0, steplogrec_Check_n0, bindO_cond, bindO_assoc, bindO_none, bindO_pure, bindO_elim, bindO_unP, Sum.elim_inl, Sum.elim_inr]
theorem steplogrec_Check_n0_ok (n : Nat) (i : Ilogrec_Check_n0) (v : Vlogrec_Check_n0) (K : Ex → St → Ans) : codeI Try.tab envlogrec_Check noHint (codeD Try.tab envlogrec_Check noHint 0 64) (n+1) 41 annLlogrec_Check_n0 (.loop Llogrec_Check_n0) (weakP 0 (exk [] [2] [(1, [])]) K) (Slogrec_Check_n0 i v) = steplogrec_Check_n0 i v (fun v' => codeI Try.tab envlogrec_Check noHint (codeD Try.tab envlogrec_Check noHint 0 64) n 41 annLlogrec_Check_n0 (.loop Llogrec_Check_n0) (weakP 0 (exk [] [2] [(1, [])]) K) (Slogrec_Check_n0 i v')) (fun y => outlogrec_Check_n0 i K y) := by kernel_rfl
theorem GNlogrec_Check_n0_ok : CSum Try.prog 41 (.loop Llogrec_Check_n0) (sumL declogrec_Check_n0 stepDlogrec_Check_n0 outlogrec_Check_n0) := csum_loop mixed tabOk envlogrec_CheckOk 0 (exk [] [2] [(1, [])]) annLlogrec_Check_n0_ok declogrec_Check_n0_ok steplogrec_Check_n0_ok steplogrec_Check_n0_nat
noncomputable def Glogrec_Check_n0 : (Ex → St → Ans) → St → Ans := (sumL declogrec_Check_n0 stepDlogrec_Check_n0 outlogrec_Check_n0)
theorem Glogrec_Check_n0_ok : CSum Try.prog 41 (.loop Llogrec_Check_n0) Glogrec_Check_n0 := GNlogrec_Check_n0_ok
noncomputable def annlogrec_Check : Ann := (.seq .none (.seq .none (.seq (.seq .none (.block (.cut 0 [0, 13, 14, 15] Glogrec_Check_n0))) .none)))
theorem annlogrec_Check_ok : AnnOk Try.prog 41 blogrec_Check annlogrec_Check := ⟨(annOk_none _ _ _), ⟨(annOk_none _ _ _), ⟨⟨(annOk_none _ _ _), Glogrec_Check_n0_ok⟩, (annOk_none _ _ _)⟩⟩⟩
abbrev Alogrec_Check := (List (Int × List UInt8))
abbrev Ylogrec_Check := (Int)
def fnlogrec_Check {β : Type} : Alogrec_Check → (Ylogrec_Check → Option β) → Option β := fun a0 exit => (bif (↑(List.length a0) : Int) == (0 : Int) then (exit ((8 : Int))) else (bif decide ((↑(List.length a0) : Int) > (16 : Int)) then (exit ((6 : Int))) else (bindO (loopD (stepDlogrec_Check_n0 (a0, a0, (↑(List.length a0) : Int))) FUEL ((0 : Int))) (Sum.elim (fun t2 => (exit (t2))) (fun _ => (exit ((0 : Int))))))))
def fnDlogrec_Check (a : Alogrec_Check) : Option Ylogrec_Check := fnlogrec_Check a some
theorem fnlogrec_Check_nat (a : Alogrec_Check) (k : Ylogrec_Check → Ans) : fnlogrec_Check a k = bindO (fnDlogrec_Check a) k := by
  obtain z := a
  simp only [fnDlogrec_Check, fnlogrec_Check, bindO_cond, bindO_assoc, bindO_none, bindO_pure, bindO_elim, bindO_unP]
def argslogrec_Check : Alogrec_Check → List AV := fun a0 => [AV.ro (Ty.st (Ty.pair (Ty.int IntKind.i64) Ty.str)) a0]
def decAlogrec_Check (l : List AV) : Option Alogrec_Check := match l with
  | [AV.ro (Ty.st (Ty.pair (Ty.int IntKind.i64) Ty.str)) a0] => some (a0)
  | _ => none
theorem decAlogrec_Check_ok (l : List AV) (a : Alogrec_Check) (h : decAlogrec_Check l = some a) : l = argslogrec_Check a := by
  unfold decAlogrec_Check at h
  split at h
  · cases h; rfl
  · cases h
def rendlogrec_Check : Alogrec_Check → Ylogrec_Check → AV := fun a0 => fun r_y => AV.int IntKind.i64 r_y
theorem rendlogrec_Check_ok : ∀ (a : Alogrec_Check) (y : Ylogrec_Check), (rendlogrec_Check a y).closed1 = true := by
  rintro z y <;> first | rfl | exact Empty.elim y
theorem fnlogrec_Check_ok (a : Alogrec_Check) : fnE Try.tab envlogrec_Check noHint 0 70 31 Try.f31.ntmps Try.f31.results.toList annlogrec_Check blogrec_Check (argslogrec_Check a) [] (fun v _ => some (v, [])) = fnlogrec_Check a (fun y => some (rendlogrec_Check a y, [])) := by kernel_rfl
def vFlogrec_Check (a : Alogrec_Check) (K : AV → Ans) : Ans := bindO (fnDlogrec_Check a) fun y => K (rendlogrec_Check a y)
def Flogrec_Check : List AV → (AV → Ans) → Ans := fun l K => bindO (decAlogrec_Check l) fun a => vFlogrec_Check a K
theorem Flogrec_Check_ok : PureOk Try.prog 31 Flogrec_Check := pure_mkD (hint := noHint) (d := 0) (n := 70) mixed tabOk envlogrec_CheckOk Try.func31 (bodySome (by kernel_rfl)) (by decide +kernel) annlogrec_Check_ok decAlogrec_Check_ok fnlogrec_Check_ok fnlogrec_Check_nat rendlogrec_Check_ok
--@ field_width
noncomputable def envfield_width : Env := []
theorem envfield_widthOk : EnvOk Try.prog envfield_width := EnvOk.nil
noncomputable def bfield_width : Code := Try.f68.body.getD .skip
noncomputable def Lfield_width_n0 : Code := codeAt [1, 0] bfield_width
noncomputable def annLfield_width_n0 : Ann := .none
theorem annLfield_width_n0_ok : AnnOk Try.prog 9 Lfield_width_n0 annLfield_width_n0 := (annOk_none _ _ _)
abbrev Ifield_width_n0 := (Int)
abbrev Yfield_width_n0 := (Bool)
def Sfield_width_n0 : Ifield_width_n0 → St := fun t0 => { env := [(0, AV.int IntKind.i64 t0)], stk := [[]], H := [], blk := 278528 }
def decfield_width_n0 (s : St) : Option Ifield_width_n0 := match s with
  | { env := [(0, AV.int IntKind.i64 t0)], stk := [[]], H := [], blk := 278528 } => some (t0)
  | _ => none
theorem decfield_width_n0_ok (s : St) (x : Ifield_width_n0) (h : decfield_width_n0 s = some x) : s = Sfield_width_n0 x := by
  unfold decfield_width_n0 at h
  split at h
  · cases h; rfl
  · cases h
def outfield_width_n0 : Ifield_width_n0 → (Ex → St → Ans) → Yfield_width_n0 → Ans := fun t0 K => fun t2_y => K (Ex.norm) { env := [(2, AV.bool t2_y)], stk := [[]], H := [], blk := 278528 }
def nodefield_width_n0 {β : Type} : Ifield_width_n0 → (Yfield_width_n0 → Option β) → Option β := fun t0 exit => (bif decide (t0 ≥ (1 : Int)) then (exit (decide (t0 ≤ (7 : Int)))) else (exit (false)))
def nodeDfield_width_n0 (i : Ifield_width_n0) : Option Yfield_width_n0 := nodefield_width_n0 i some
theorem nodefield_width_n0_nat (i : Ifield_width_n0) (k : Yfield_width_n0 → Ans) : nodefield_width_n0 i k = bindO (nodeDfield_width_n0 i) k := by
  obtain z := i
  simp only [nodeDfield_width_n0, nodefield_width_n0, bindO_cond, bindO_assoc, bindO_none, bindO_pure, bindO_elim, bindO_unP]
theorem nodefield_width_n0_ok (i : Ifield_width_n0) (K : Ex → St → Ans) : codeI Try.tab envfield_width noHint (codeD Try.tab envfield_width noHint 0 64) 70 9 annLfield_width_n0 Lfield_width_n0 (weakP 0 (exk [2] [2] []) K) (Sfield_width_n0 i) = nodefield_width_n0 i (outfield_width_n0 i K) := by kernel_rfl
theorem GNfield_width_n0_ok : CSum Try.prog 9 Lfield_width_n0 (sumN decfield_width_n0 nodeDfield_width_n0 outfield_width_n0) := csum_node mixed tabOk envfield_widthOk 0 (exk [2] [2] []) annLfield_width_n0_ok decfield_width_n0_ok nodefield_width_n0_ok nodefield_width_n0_nat
noncomputable def Gfield_width_n0 : (Ex → St → Ans) → St → Ans := (sumN decfield_width_n0 nodeDfield_width_n0 outfield_width_n0)
theorem Gfield_width_n0_ok : CSum Try.prog 9 Lfield_width_n0 Gfield_width_n0 := GNfield_width_n0_ok
noncomputable def annfield_width : Ann := (.seq .none (.seq (.cut 0 [0] Gfield_width_n0) .none))
theorem annfield_width_ok : AnnOk Try.prog 9 bfield_width annfield_width := ⟨(annOk_none _ _ _), ⟨Gfield_width_n0_ok, (annOk_none _ _ _)⟩⟩
abbrev Afield_width := (Int)
abbrev Yfield_width := (Bool)
def fnfield_width {β : Type} : Afield_width → (Yfield_width → Option β) → Option β := fun a0 exit => (bindO (nodeDfield_width_n0 (a0)) fun t2 => (exit (t2)))
def fnDfield_width (a : Afield_width) : Option Yfield_width := fnfield_width a some
theorem fnfield_width_nat (a : Afield_width) (k : Yfield_width → Ans) : fnfield_width a k = bindO (fnDfield_width a) k := by
  obtain z := a
  simp only [fnDfield_width, fnfield_width, bindO_cond, bindO_assoc, bindO_none, bindO_pure, bindO_elim, bindO_unP]
def argsfield_width : Afield_width → List AV := fun a0 => [AV.int IntKind.i64 a0]
def decAfield_width (l : List AV) : Option Afield_width := match l with
  | [AV.int IntKind.i64 a0] => some (a0)
  | _ => none
theorem decAfield_width_ok (l : List AV) (a : Afield_width) (h : decAfield_width l = some a) : l = argsfield_width a := by
  unfold decAfield_width at h
  split at h
  · cases h; rfl
  · cases h
def rendfield_width : Afield_width → Yfield_width → AV := fun a0 => fun r_y => AV.bool r_y
theorem rendfield_width_ok : ∀ (a : Afield_width) (y : Yfield_width), (rendfield_width a y).closed1 = true := by
  rintro z y <;> first | rfl | exact Empty.elim y
theorem fnfield_width_ok (a : Afield_width) : fnE Try.tab envfield_width noHint 0 70 68 Try.f68.ntmps Try.f68.results.toList annfield_width bfield_width (argsfield_width a) [] (fun v _ => some (v, [])) = fnfield_width a (fun y => some (rendfield_width a y, [])) := by kernel_rfl
def vFfield_width (a : Afield_width) (K : AV → Ans) : Ans := bindO (fnDfield_width a) fun y => K (rendfield_width a y)
def Ffield_width : List AV → (AV → Ans) → Ans := fun l K => bindO (decAfield_width l) fun a => vFfield_width a K
theorem Ffield_width_ok : PureOk Try.prog 68 Ffield_width := pure_mkD (hint := noHint) (d := 0) (n := 70) mixed tabOk envfield_widthOk Try.func68 (bodySome (by kernel_rfl)) (by decide +kernel) annfield_width_ok decAfield_width_ok fnfield_width_ok fnfield_width_nat rendfield_width_ok
--@ field_Fits
noncomputable def envfield_Fits : Env := [(68, .pure Ffield_width)]
theorem envfield_FitsOk : EnvOk Try.prog envfield_Fits := EnvOk.cons Ffield_width_ok (EnvOk.nil)
noncomputable def bfield_Fits : Code := Try.f62.body.getD .skip
noncomputable def Lfield_Fits_n0 : Code := codeAt [1, 0] bfield_Fits
noncomputable def annLfield_Fits_n0 : Ann := .none
theorem annLfield_Fits_n0_ok : AnnOk Try.prog 18 Lfield_Fits_n0 annLfield_Fits_n0 := (annOk_none _ _ _)
abbrev Ifield_Fits_n0 := (Int) × (Int)
abbrev Yfield_Fits_n0 := (Bool)
def Sfield_Fits_n0 : Ifield_Fits_n0 → St := fun (t0, t1) => { env := [(0, AV.int IntKind.i64 t0), (1, AV.int IntKind.i64 t1)], stk := [[]], H := [], blk := 253952 }
def decfield_Fits_n0 (s : St) : Option Ifield_Fits_n0 := match s with
  | { env := [(0, AV.int IntKind.i64 t0), (1, AV.int IntKind.i64 t1)], stk := [[]], H := [], blk := 253952 } => some (t0, t1)
  | _ => none
theorem decfield_Fits_n0_ok (s : St) (x : Ifield_Fits_n0) (h : decfield_Fits_n0 s = some x) : s = Sfield_Fits_n0 x := by
  unfold decfield_Fits_n0 at h
  split at h
  · cases h; rfl
  · cases h
def outfield_Fits_n0 : Ifield_Fits_n0 → (Ex → St → Ans) → Yfield_Fits_n0 → Ans := fun (t0, t1) K => fun t4_y => K (Ex.norm) { env := [(4, AV.bool t4_y)], stk := [[]], H := [], blk := 253952 }
def nodefield_Fits_n0 {β : Type} : Ifield_Fits_n0 → (Yfield_Fits_n0 → Option β) → Option β := fun (t0, t1) exit => (bindO (fnDfield_width (t1)) fun r => (bif r then (bif decide (t0 ≥ (0 : Int)) then (bif decide (IntKind.wrap IntKind.i64 ((8 : Int) * t1) < (0 : Int)) then none else (exit (Int.fdiv t0 ((2 : Int) ^ min (Int.toNat (IntKind.wrap IntKind.i64 ((8 : Int) * t1))) (64 : Nat)) == (0 : Int)))) else (exit (false))) else (exit (false))))
def nodeDfield_Fits_n0 (i : Ifield_Fits_n0) : Option Yfield_Fits_n0 := nodefield_Fits_n0 i some
theorem nodefield_Fits_n0_nat (i : Ifield_Fits_n0) (k : Yfield_Fits_n0 → Ans) : nodefield_Fits_n0 i k = bindO (nodeDfield_Fits_n0 i) k := by
  obtain ⟨t0, t1⟩ := i
  simp only [nodeDfield_Fits_n0, nodefield_Fits_n0, bindO_cond, bindO_assoc, bindO_none, bindO_pure, bindO_elim, bindO_unP]
theorem nodefield_Fits_n0_ok (i : Ifield_Fits_n0) (K : Ex → St → Ans) : codeI Try.tab envfield_Fits noHint (codeD Try.tab envfield_Fits noHint 0 64) 70 18 annLfield_Fits_n0 Lfield_Fits_n0 (weakP 0 (exk [4] [4] []) K) (Sfield_Fits_n0 i) = nodefield_Fits_n0 i (outfield_Fits_n0 i K) := by kernel_rfl
theorem GNfield_Fits_n0_ok : CSum Try.prog 18 Lfield_Fits_n0 (sumN decfield_Fits_n0 nodeDfield_Fits_n0 outfield_Fits_n0) := csum_node mixed tabOk envfield_FitsOk 0 (exk [4] [4] []) annLfield_Fits_n0_ok decfield_Fits_n0_ok nodefield_Fits_n0_ok nodefield_Fits_n0_nat
noncomputable def Gfield_Fits_n0 : (Ex → St → Ans) → St → Ans := (sumN decfield_Fits_n0 nodeDfield_Fits_n0 outfield_Fits_n0)
theorem Gfield_Fits_n0_ok : CSum Try.prog 18 Lfield_Fits_n0 Gfield_Fits_n0 := GNfield_Fits_n0_ok
noncomputable def annfield_Fits : Ann := (.seq .none (.seq (.cut 0 [0, 1] Gfield_Fits_n0) .none))
theorem annfield_Fits_ok : AnnOk Try.prog 18 bfield_Fits annfield_Fits := ⟨(annOk_none _ _ _), ⟨Gfield_Fits_n0_ok, (annOk_none _ _ _)⟩⟩
abbrev Afield_Fits := (Int) × (Int)
abbrev Yfield_Fits := (Bool)
def fnfield_Fits {β : Type} : Afield_Fits → (Yfield_Fits → Option β) → Option β := fun (a0, a1) exit => (bindO (nodeDfield_Fits_n0 (a0, a1)) fun t4 => (exit (t4)))
def fnDfield_Fits (a : Afield_Fits) : Option Yfield_Fits := fnfield_Fits a some
theorem fnfield_Fits_nat (a : Afield_Fits) (k : Yfield_Fits → Ans) : fnfield_Fits a k = bindO (fnDfield_Fits a) k := by
  obtain ⟨a0, a1⟩ := a
  simp only [fnDfield_Fits, fnfield_Fits, bindO_cond, bindO_assoc, bindO_none, bindO_pure, bindO_elim, bindO_unP]
def argsfield_Fits : Afield_Fits → List AV := fun (a0, a1) => [AV.int IntKind.i64 a0, AV.int IntKind.i64 a1]
def decAfield_Fits (l : List AV) : Option Afield_Fits := match l with
  | [AV.int IntKind.i64 a0, AV.int IntKind.i64 a1] => some (a0, a1)
  | _ => none
theorem decAfield_Fits_ok (l : List AV) (a : Afield_Fits) (h : decAfield_Fits l = some a) : l = argsfield_Fits a := by
  unfold decAfield_Fits at h
  split at h
  · cases h; rfl
  · cases h
def rendfield_Fits : Afield_Fits → Yfield_Fits → AV := fun (a0, a1) => fun r_y => AV.bool r_y
theorem rendfield_Fits_ok : ∀ (a : Afield_Fits) (y : Yfield_Fits), (rendfield_Fits a y).closed1 = true := by
  rintro ⟨a0, a1⟩ y <;> first | rfl | exact Empty.elim y
theorem fnfield_Fits_ok (a : Afield_Fits) : fnE Try.tab envfield_Fits noHint 0 70 62 Try.f62.ntmps Try.f62.results.toList annfield_Fits bfield_Fits (argsfield_Fits a) [] (fun v _ => some (v, [])) = fnfield_Fits a (fun y => some (rendfield_Fits a y, [])) := by kernel_rfl
def vFfield_Fits (a : Afield_Fits) (K : AV → Ans) : Ans := bindO (fnDfield_Fits a) fun y => K (rendfield_Fits a y)
def Ffield_Fits : List AV → (AV → Ans) → Ans := fun l K => bindO (decAfield_Fits l) fun a => vFfield_Fits a K
theorem Ffield_Fits_ok : PureOk Try.prog 62 Ffield_Fits := pure_mkD (hint := noHint) (d := 0) (n := 70) mixed tabOk envfield_FitsOk Try.func62 (bodySome (by kernel_rfl)) (by decide +kernel) annfield_Fits_ok decAfield_Fits_ok fnfield_Fits_ok fnfield_Fits_nat rendfield_Fits_ok
--@ field_Put
noncomputable def envfield_Put : Env := [(62, .pure Ffield_Fits)]
theorem envfield_PutOk : EnvOk Try.prog envfield_Put := EnvOk.cons Ffield_Fits_ok (EnvOk.nil)
noncomputable def bfield_Put : Code := Try.f38.body.getD .skip
noncomputable def Lfield_Put_n0 : Code := codeAt [1, 1, 1, 0, 1, 0, 0] bfield_Put
noncomputable def annLfield_Put_n0 : Ann := .at 0 [0, 1, 2, 7, 17, 18] (.loop .none)
theorem annLfield_Put_n0_ok : AnnOk Try.prog 37 (.loop Lfield_Put_n0) annLfield_Put_n0 := annOk_at (annOk_none _ _ _)
abbrev Ifield_Put_n0 := (List UInt8) × (Int) × (Int) × (Int)
abbrev Yfield_Put_n0 := (List Int)
abbrev Vfield_Put_n0 := (Int) × (List Int)
def Sfield_Put_n0 : Ifield_Put_n0 → Vfield_Put_n0 → St := fun (t0, t1, t2, t17) (t18, o0) => { env := [(0, AV.str t0), (1, AV.int IntKind.i64 t1), (2, AV.int IntKind.i64 t2), (7, AV.own 0), (17, AV.int IntKind.i64 t17), (18, AV.int IntKind.i64 t18)], stk := [[]], H := [Obj.arr (Ty.int IntKind.u8) o0], blk := 155648 }
def decfield_Put_n0 (s : St) : Option (Ifield_Put_n0 × Vfield_Put_n0) := match s with
  | { env := [(0, AV.str t0), (1, AV.int IntKind.i64 t1), (2, AV.int IntKind.i64 t2), (7, AV.own 0), (17, AV.int IntKind.i64 t17), (18, AV.int IntKind.i64 t18)], stk := [[]], H := [Obj.arr (Ty.int IntKind.u8) o0], blk := 155648 } => some ((t0, t1, t2, t17), (t18, o0))
  | _ => none
theorem decfield_Put_n0_ok (s : St) (x : Ifield_Put_n0 × Vfield_Put_n0) (h : decfield_Put_n0 s = some x) : s = Sfield_Put_n0 x.1 x.2 := by
  unfold decfield_Put_n0 at h
  split at h
  · cases h; rfl
  · cases h
def outfield_Put_n0 : Ifield_Put_n0 → (Ex → St → Ans) → Yfield_Put_n0 → Ans := fun (t0, t1, t2, t17) K => fun o0_y => K (Ex.exit 0) { env := [(0, AV.str t0), (7, AV.own 0)], stk := [[]], H := [Obj.arr (Ty.int IntKind.u8) o0_y], blk := 155648 }
def stepfield_Put_n0 {β : Type} : Ifield_Put_n0 → Vfield_Put_n0 → (Vfield_Put_n0 → Option β) → (Yfield_Put_n0 → Option β) → Option β := fun (t0, t1, t2, t17) (t18, o0) next exit => (bif decide (t18 < t17) then (bif decide (IntKind.wrap IntKind.i64 ((8 : Int) * IntKind.wrap IntKind.i64 (IntKind.wrap IntKind.i64 (t2 - (1 : Int)) - t18)) < (0 : Int)) then none else (bif inR t18 (List.length o0) then (bindO (o0[Int.toNat t18]?) fun x => (next (IntKind.wrap IntKind.i64 (t18 + (1 : Int)), List.set o0 (Int.toNat t18) (IntKind.wrap IntKind.u8 (Int.fdiv t1 ((2 : Int) ^ min (Int.toNat (IntKind.wrap IntKind.i64 ((8 : Int) * IntKind.wrap IntKind.i64 (IntKind.wrap IntKind.i64 (t2 - (1 : Int)) - t18)))) (64 : Nat))))))) else none)) else (exit (o0)))
def stepDfield_Put_n0 (i : Ifield_Put_n0) (v : Vfield_Put_n0) : Option (Vfield_Put_n0 ⊕ Yfield_Put_n0) := stepfield_Put_n0 i v (fun v => some (.inl v)) (fun y => some (.inr y))
theorem stepfield_Put_n0_nat (i : Ifield_Put_n0) (v : Vfield_Put_n0) (next : Vfield_Put_n0 → Ans) (exit : Yfield_Put_n0 → Ans) : stepfield_Put_n0 i v next exit = bindO (stepDfield_Put_n0 i v) (Sum.elim next exit) := by
  obtain ⟨t0, t1, t2, t17⟩ := i
  obtain ⟨t18, o0⟩ := v
  simp only [stepDfield_Put_n0, stepfield_Put_n0, bindO_cond, bindO_assoc, bindO_none, bindO_pure, bindO_elim, bindO_unP, Sum.elim_inl, Sum.elim_inr]
theorem stepfield_Put_n0_ok (n : Nat) (i : Ifield_Put_n0) (v : Vfield_Put_n0) (K : Ex → St → Ans) : codeI Try.tab envfield_Put noHint (codeD Try.tab envfield_Put noHint 0 64) (n+1) 37 annLfield_Put_n0 (.loop Lfield_Put_n0) (weakP 0 (exk [0, 7] [6] [(0, [0, 7])]) K) (Sfield_Put_n0 i v) = stepfield_Put_n0 i v (fun v' => codeI Try.tab envfield_Put noHint (codeD Try.tab envfield_Put noHint 0 64) n 37 annLfield_Put_n0 (.loop Lfield_Put_n0) (weakP 0 (exk [0, 7] [6] [(0, [0, 7])]) K) (Sfield_Put_n0 i v')) (fun y => outfield_Put_n0 i K y) := by kernel_rfl
theorem GNfield_Put_n0_ok : CSum Try.prog 37 (.loop Lfield_Put_n0) (sumL decfield_Put_n0 stepDfield_Put_n0 outfield_Put_n0) := csum_loop mixed tabOk envfield_PutOk 0 (exk [0, 7] [6] [(0, [0, 7])]) annLfield_Put_n0_ok decfield_Put_n0_ok stepfield_Put_n0_ok stepfield_Put_n0_nat
noncomputable def Gfield_Put_n0 : (Ex → St → Ans) → St → Ans := (sumL decfield_Put_n0 stepDfield_Put_n0 outfield_Put_n0)
theorem Gfield_Put_n0_ok : CSum Try.prog 37 (.loop Lfield_Put_n0) Gfield_Put_n0 := GNfield_Put_n0_ok
noncomputable def annfield_Put : Ann := (.seq .none (.seq .none (.seq .none (.seq (.seq .none (.block (.cut 0 [0, 1, 2, 7, 17, 18] Gfield_Put_n0))) .none))))
theorem annfield_Put_ok : AnnOk Try.prog 37 bfield_Put annfield_Put := ⟨(annOk_none _ _ _), ⟨(annOk_none _ _ _), ⟨(annOk_none _ _ _), ⟨⟨(annOk_none _ _ _), Gfield_Put_n0_ok⟩, (annOk_none _ _ _)⟩⟩⟩⟩
abbrev Afield_Put := (List UInt8) × (Int) × (Int)
abbrev Yfield_Put := (List UInt8)
def fnfield_Put {β : Type} : Afield_Put → (Yfield_Put → Option β) → Option β := fun (a0, a1, a2) exit => (bindO (fnDfield_Fits (a1, a2)) fun r => (bif !r then (exit (a0)) else (bif decide ((0 : Int) ≤ a2) && decide (a2 ≤ a2) && decide ((1 : Int) * a2 ≤ (281474976710656 : Int)) && decide (a2 ≤ (9223372036854775807 : Int)) then (bindO (loopD (stepDfield_Put_n0 (a0, a1, a2, (↑(List.length (List.replicate (Int.toNat a2) (0 : Int))) : Int))) FUEL ((0 : Int), List.replicate (Int.toNat a2) (0 : Int))) fun o0 => (bif Nat.ble (List.length a0 + List.length (bytesOf o0)) (9223372036854775807 : Nat) then (exit (a0 ++ bytesOf o0)) else none)) else none)))
def fnDfield_Put (a : Afield_Put) : Option Yfield_Put := fnfield_Put a some
theorem fnfield_Put_nat (a : Afield_Put) (k : Yfield_Put → Ans) : fnfield_Put a k = bindO (fnDfield_Put a) k := by
  obtain ⟨a0, a1, a2⟩ := a
  simp only [fnDfield_Put, fnfield_Put, bindO_cond, bindO_assoc, bindO_none, bindO_pure, bindO_elim, bindO_unP]
def argsfield_Put : Afield_Put → List AV := fun (a0, a1, a2) => [AV.str a0, AV.int IntKind.i64 a1, AV.int IntKind.i64 a2]
def decAfield_Put (l : List AV) : Option Afield_Put := match l with
  | [AV.str a0, AV.int IntKind.i64 a1, AV.int IntKind.i64 a2] => some (a0, a1, a2)
  | _ => none
theorem decAfield_Put_ok (l : List AV) (a : Afield_Put) (h : decAfield_Put l = some a) : l = argsfield_Put a := by
  unfold decAfield_Put at h
  split at h
  · cases h; rfl
  · cases h
def rendfield_Put : Afield_Put → Yfield_Put → AV := fun (a0, a1, a2) => fun r_y => AV.str r_y
theorem rendfield_Put_ok : ∀ (a : Afield_Put) (y : Yfield_Put), (rendfield_Put a y).closed1 = true := by
  rintro ⟨a0, a1, a2⟩ y <;> first | rfl | exact Empty.elim y
theorem fnfield_Put_ok (a : Afield_Put) : fnE Try.tab envfield_Put noHint 0 70 38 Try.f38.ntmps Try.f38.results.toList annfield_Put bfield_Put (argsfield_Put a) [] (fun v _ => some (v, [])) = fnfield_Put a (fun y => some (rendfield_Put a y, [])) := by kernel_rfl
def vFfield_Put (a : Afield_Put) (K : AV → Ans) : Ans := bindO (fnDfield_Put a) fun y => K (rendfield_Put a y)
def Ffield_Put : List AV → (AV → Ans) → Ans := fun l K => bindO (decAfield_Put l) fun a => vFfield_Put a K
theorem Ffield_Put_ok : PureOk Try.prog 38 Ffield_Put := pure_mkD (hint := noHint) (d := 0) (n := 70) mixed tabOk envfield_PutOk Try.func38 (bodySome (by kernel_rfl)) (by decide +kernel) annfield_Put_ok decAfield_Put_ok fnfield_Put_ok fnfield_Put_nat rendfield_Put_ok
--@ strings_Builder_WriteString
noncomputable def envstrings_Builder_WriteString : Env := [(70, .func FBuilder_copyCheck)]
theorem envstrings_Builder_WriteStringOk : EnvOk Try.prog envstrings_Builder_WriteString := EnvOk.cons FBuilder_copyCheck_ok (EnvOk.nil)
noncomputable def bstrings_Builder_WriteString : Code := Try.f55.body.getD .skip
noncomputable def annstrings_Builder_WriteString : Ann := .none
theorem annstrings_Builder_WriteString_ok : AnnOk Try.prog 19 bstrings_Builder_WriteString annstrings_Builder_WriteString := (annOk_none _ _ _)
abbrev Astrings_Builder_WriteString := (List UInt8) × (List Int)
abbrev Ystrings_Builder_WriteString := (Int) × (List Int)
def fnstrings_Builder_WriteString {β : Type} : Astrings_Builder_WriteString → (Ystrings_Builder_WriteString → Option β) → Option β := fun (a1, o1) exit => (bindO (fnDBuilder_copyCheck (o1)) fun o1_2 => (bif Nat.ble ((List.length o1_2 + List.length (intsOf a1)) * (1 : Nat)) (140737488355328 : Nat) then (exit ((↑(List.length a1) : Int), o1_2 ++ intsOf a1)) else none))
def fnDstrings_Builder_WriteString (a : Astrings_Builder_WriteString) : Option Ystrings_Builder_WriteString := fnstrings_Builder_WriteString a some
theorem fnstrings_Builder_WriteString_nat (a : Astrings_Builder_WriteString) (k : Ystrings_Builder_WriteString → Ans) : fnstrings_Builder_WriteString a k = bindO (fnDstrings_Builder_WriteString a) k := by
  obtain ⟨a1, o1⟩ := a
  simp only [fnDstrings_Builder_WriteString, fnstrings_Builder_WriteString, bindO_cond, bindO_assoc, bindO_none, bindO_pure, bindO_elim, bindO_unP]
def argsstrings_Builder_WriteString : Astrings_Builder_WriteString → List AV × List AE.Obj := fun (a1, o1) => ([AV.ptr 0 0, AV.str a1], [Obj.bcells [AV.own 1], Obj.arr (Ty.int IntKind.u8) o1])
def decAstrings_Builder_WriteString (l : List AV) (H : List AE.Obj) : Option Astrings_Builder_WriteString := match l, H with
  | [AV.ptr 0 0, AV.str a1], [Obj.bcells [AV.own 1], Obj.arr (Ty.int IntKind.u8) o1] => some (a1, o1)
  | _, _ => none
theorem decAstrings_Builder_WriteString_ok (l : List AV) (H : List AE.Obj) (a : Astrings_Builder_WriteString) (h : decAstrings_Builder_WriteString l H = some a) : (l, H) = argsstrings_Builder_WriteString a := by
  unfold decAstrings_Builder_WriteString at h
  split at h
  · cases h; rfl
  · cases h
def outstrings_Builder_WriteString : Astrings_Builder_WriteString → (AV → List AE.Obj → Ans) → Ystrings_Builder_WriteString → Ans := fun (a1, o1) K => unP fun r_0_y o1_y => K (AV.tup [AV.int IntKind.i64 r_0_y, AV.nili]) [Obj.bcells [AV.own 1], Obj.arr (Ty.int IntKind.u8) o1_y]
theorem fnstrings_Builder_WriteString_ok (a : Astrings_Builder_WriteString) (K : AV → List AE.Obj → Ans) : fnE Try.tab envstrings_Builder_WriteString noHint 0 70 55 Try.f55.ntmps Try.f55.results.toList annstrings_Builder_WriteString bstrings_Builder_WriteString (argsstrings_Builder_WriteString a).1 (argsstrings_Builder_WriteString a).2 K = fnstrings_Builder_WriteString a (outstrings_Builder_WriteString a K) := by kernel_rfl
def vFstrings_Builder_WriteString (a : Astrings_Builder_WriteString) (K : AV → List AE.Obj → Ans) : Ans := bindO (fnDstrings_Builder_WriteString a) fun y => outstrings_Builder_WriteString a K y
def Fstrings_Builder_WriteString : List AV → List AE.Obj → (AV → List AE.Obj → Ans) → Ans := fun l H K => bindO (decAstrings_Builder_WriteString l H) fun a => vFstrings_Builder_WriteString a K
theorem Fstrings_Builder_WriteString_ok : FuncOk Try.prog 55 Fstrings_Builder_WriteString := func_mkD (hint := noHint) (d := 0) (n := 70) mixed tabOk envstrings_Builder_WriteStringOk Try.func55 (bodySome (by kernel_rfl)) (by decide +kernel) annstrings_Builder_WriteString_ok decAstrings_Builder_WriteString_ok fnstrings_Builder_WriteString_ok fnstrings_Builder_WriteString_nat
--@ cyclic_New
noncomputable def envcyclic_New : Env := []
theorem envcyclic_NewOk : EnvOk Try.prog envcyclic_New := EnvOk.nil
noncomputable def bcyclic_New : Code := Try.f76.body.getD .skip
noncomputable def anncyclic_New : Ann := .none
theorem anncyclic_New_ok : AnnOk Try.prog 3 bcyclic_New anncyclic_New := (annOk_none _ _ _)
abbrev Acyclic_New := Unit
abbrev Ycyclic_New := Unit
def fncyclic_New {β : Type} : Acyclic_New → (Ycyclic_New → Option β) → Option β := fun _ exit => (exit ())
def fnDcyclic_New (a : Acyclic_New) : Option Ycyclic_New := fncyclic_New a some
theorem fncyclic_New_nat (a : Acyclic_New) (k : Ycyclic_New → Ans) : fncyclic_New a k = bindO (fnDcyclic_New a) k := by
  obtain z := a
  simp only [fnDcyclic_New, fncyclic_New, bindO_cond, bindO_assoc, bindO_none, bindO_pure, bindO_elim, bindO_unP]
def argscyclic_New : Acyclic_New → List AV × List AE.Obj := fun _ => ([], [])
def decAcyclic_New (l : List AV) (H : List AE.Obj) : Option Acyclic_New := match l, H with
  | [], [] => some ()
  | _, _ => none
theorem decAcyclic_New_ok (l : List AV) (H : List AE.Obj) (a : Acyclic_New) (h : decAcyclic_New l H = some a) : (l, H) = argscyclic_New a := by
  unfold decAcyclic_New at h
  split at h
  · cases h; rfl
  · cases h
def outcyclic_New : Acyclic_New → (AV → List AE.Obj → Ans) → Ycyclic_New → Ans := fun _ K => fun _ => K (AV.ptr 0 0) [AE.Obj.cells [AV.int IntKind.u32 (0)]]
theorem fncyclic_New_ok (a : Acyclic_New) (K : AV → List AE.Obj → Ans) : fnE Try.tab envcyclic_New noHint 0 70 76 Try.f76.ntmps Try.f76.results.toList anncyclic_New bcyclic_New (argscyclic_New a).1 (argscyclic_New a).2 K = fncyclic_New a (outcyclic_New a K) := by kernel_rfl
def vFcyclic_New (a : Acyclic_New) (K : AV → List AE.Obj → Ans) : Ans := bindO (fnDcyclic_New a) fun y => outcyclic_New a K y
def Fcyclic_New : List AV → List AE.Obj → (AV → List AE.Obj → Ans) → Ans := fun l H K => bindO (decAcyclic_New l H) fun a => vFcyclic_New a K
theorem Fcyclic_New_ok : FuncOk Try.prog 76 Fcyclic_New := func_mkD (hint := noHint) (d := 0) (n := 70) mixed tabOk envcyclic_NewOk Try.func76 (bodySome (by kernel_rfl)) (by decide +kernel) anncyclic_New_ok decAcyclic_New_ok fncyclic_New_ok fncyclic_New_nat
--@ cyclic_step
noncomputable def envcyclic_step : Env := []
theorem envcyclic_stepOk : EnvOk Try.prog envcyclic_step := EnvOk.nil
noncomputable def bcyclic_step : Code := Try.f84.body.getD .skip
noncomputable def Lcyclic_step_n0 : Code := codeAt [1, 1, 0, 1, 0, 0] bcyclic_step
noncomputable def annLcyclic_step_n0 : Ann := .at 0 [0, 9] (.loop .none)
theorem annLcyclic_step_n0_ok : AnnOk Try.prog 20 (.loop Lcyclic_step_n0) annLcyclic_step_n0 := annOk_at (annOk_none _ _ _)
abbrev Icyclic_step_n0 := Unit
abbrev Ycyclic_step_n0 := (Int)
abbrev Vcyclic_step_n0 := (Int) × (Int)
def Scyclic_step_n0 : Icyclic_step_n0 → Vcyclic_step_n0 → St := fun _ (t0, t9) => { env := [(0, AV.int IntKind.u32 t0), (9, AV.int IntKind.i64 t9)], stk := [[]], H := [], blk := 344064 }
def deccyclic_step_n0 (s : St) : Option (Icyclic_step_n0 × Vcyclic_step_n0) := match s with
  | { env := [(0, AV.int IntKind.u32 t0), (9, AV.int IntKind.i64 t9)], stk := [[]], H := [], blk := 344064 } => some ((), (t0, t9))
  | _ => none
theorem deccyclic_step_n0_ok (s : St) (x : Icyclic_step_n0 × Vcyclic_step_n0) (h : deccyclic_step_n0 s = some x) : s = Scyclic_step_n0 x.1 x.2 := by
  unfold deccyclic_step_n0 at h
  split at h
  · cases h; rfl
  · cases h
def outcyclic_step_n0 : Icyclic_step_n0 → (Ex → St → Ans) → Ycyclic_step_n0 → Ans := fun _ K => fun t0_y => K (Ex.exit 0) { env := [(0, AV.int IntKind.u32 t0_y)], stk := [[]], H := [], blk := 344064 }
def stepcyclic_step_n0 {β : Type} : Icyclic_step_n0 → Vcyclic_step_n0 → (Vcyclic_step_n0 → Option β) → (Ycyclic_step_n0 → Option β) → Option β := fun _ (t0, t9) next exit => (bif decide (t9 < (8 : Int)) then (next (IntKind.wrap IntKind.u32 (↑(Int.toNat (Int.fdiv t0 (2 : Int) % (4294967296 : Int)) ^^^ Int.toNat (IntKind.wrap IntKind.u32 (↑((3988292384 : Nat) &&& Int.toNat (IntKind.wrap IntKind.u32 ((0 : Int) - IntKind.wrap IntKind.u32 (↑(Int.toNat (t0 % (4294967296 : Int)) &&& (1 : Nat)) : Int)) % (4294967296 : Int))) : Int) % (4294967296 : Int))) : Int), IntKind.wrap IntKind.i64 (t9 + (1 : Int)))) else (exit (t0)))
def stepDcyclic_step_n0 (i : Icyclic_step_n0) (v : Vcyclic_step_n0) : Option (Vcyclic_step_n0 ⊕ Ycyclic_step_n0) := stepcyclic_step_n0 i v (fun v => some (.inl v)) (fun y => some (.inr y))
theorem stepcyclic_step_n0_nat (i : Icyclic_step_n0) (v : Vcyclic_step_n0) (next : Vcyclic_step_n0 → Ans) (exit : Ycyclic_step_n0 → Ans) : stepcyclic_step_n0 i v next exit = bindO (stepDcyclic_step_n0 i v) (Sum.elim next exit) := by
  obtain z := i
  obtain ⟨t0, t9⟩ := v
  simp only [stepDcyclic_step_n0, stepcyclic_step_n0, bindO_cond, bindO_assoc, bindO_none, bindO_pure, bindO_elim, bindO_unP, Sum.elim_inl, Sum.elim_inr]
theorem stepcyclic_step_n0_ok (n : Nat) (i : Icyclic_step_n0) (v : Vcyclic_step_n0) (K : Ex → St → Ans) : codeI Try.tab envcyclic_step noHint (codeD Try.tab envcyclic_step noHint 0 64) (n+1) 20 annLcyclic_step_n0 (.loop Lcyclic_step_n0) (weakP 0 (exk [0] [4] [(0, [0])]) K) (Scyclic_step_n0 i v) = stepcyclic_step_n0 i v (fun v' => codeI Try.tab envcyclic_step noHint (codeD Try.tab envcyclic_step noHint 0 64) n 20 annLcyclic_step_n0 (.loop Lcyclic_step_n0) (weakP 0 (exk [0] [4] [(0, [0])]) K) (Scyclic_step_n0 i v')) (fun y => outcyclic_step_n0 i K y) := by kernel_rfl
theorem GNcyclic_step_n0_ok : CSum Try.prog 20 (.loop Lcyclic_step_n0) (sumL deccyclic_step_n0 stepDcyclic_step_n0 outcyclic_step_n0) := csum_loop mixed tabOk envcyclic_stepOk 0 (exk [0] [4] [(0, [0])]) annLcyclic_step_n0_ok deccyclic_step_n0_ok stepcyclic_step_n0_ok stepcyclic_step_n0_nat
noncomputable def Gcyclic_step_n0 : (Ex → St → Ans) → St → Ans := (sumL deccyclic_step_n0 stepDcyclic_step_n0 outcyclic_step_n0)
theorem Gcyclic_step_n0_ok : CSum Try.prog 20 (.loop Lcyclic_step_n0) Gcyclic_step_n0 := GNcyclic_step_n0_ok
noncomputable def anncyclic_step : Ann := (.seq .none (.seq .none (.seq (.seq .none (.block (.cut 0 [0, 9] Gcyclic_step_n0))) .none)))
theorem anncyclic_step_ok : AnnOk Try.prog 20 bcyclic_step anncyclic_step := ⟨(annOk_none _ _ _), ⟨(annOk_none _ _ _), ⟨⟨(annOk_none _ _ _), Gcyclic_step_n0_ok⟩, (annOk_none _ _ _)⟩⟩⟩
abbrev Acyclic_step := (Int) × (Int)
abbrev Ycyclic_step := (Int)
def fncyclic_step {β : Type} : Acyclic_step → (Ycyclic_step → Option β) → Option β := fun (a0, a1) exit => (bindO (loopD (stepDcyclic_step_n0 ()) FUEL (IntKind.wrap IntKind.u32 (↑(Int.toNat (a0 % (4294967296 : Int)) ^^^ Int.toNat (IntKind.wrap IntKind.u32 a1 % (4294967296 : Int))) : Int), (0 : Int))) fun t0 => (exit (t0)))
def fnDcyclic_step (a : Acyclic_step) : Option Ycyclic_step := fncyclic_step a some
theorem fncyclic_step_nat (a : Acyclic_step) (k : Ycyclic_step → Ans) : fncyclic_step a k = bindO (fnDcyclic_step a) k := by
  obtain ⟨a0, a1⟩ := a
  simp only [fnDcyclic_step, fncyclic_step, bindO_cond, bindO_assoc, bindO_none, bindO_pure, bindO_elim, bindO_unP]
def argscyclic_step : Acyclic_step → List AV := fun (a0, a1) => [AV.int IntKind.u32 a0, AV.int IntKind.u8 a1]
def decAcyclic_step (l : List AV) : Option Acyclic_step := match l with
  | [AV.int IntKind.u32 a0, AV.int IntKind.u8 a1] => some (a0, a1)
  | _ => none
theorem decAcyclic_step_ok (l : List AV) (a : Acyclic_step) (h : decAcyclic_step l = some a) : l = argscyclic_step a := by
  unfold decAcyclic_step at h
  split at h
  · cases h; rfl
  · cases h
def rendcyclic_step : Acyclic_step → Ycyclic_step → AV := fun (a0, a1) => fun r_y => AV.int IntKind.u32 r_y
theorem rendcyclic_step_ok : ∀ (a : Acyclic_step) (y : Ycyclic_step), (rendcyclic_step a y).closed1 = true := by
  rintro ⟨a0, a1⟩ y <;> first | rfl | exact Empty.elim y
theorem fncyclic_step_ok (a : Acyclic_step) : fnE Try.tab envcyclic_step noHint 0 70 84 Try.f84.ntmps Try.f84.results.toList anncyclic_step bcyclic_step (argscyclic_step a) [] (fun v _ => some (v, [])) = fncyclic_step a (fun y => some (rendcyclic_step a y, [])) := by kernel_rfl
def vFcyclic_step (a : Acyclic_step) (K : AV → Ans) : Ans := bindO (fnDcyclic_step a) fun y => K (rendcyclic_step a y)
def Fcyclic_step : List AV → (AV → Ans) → Ans := fun l K => bindO (decAcyclic_step l) fun a => vFcyclic_step a K
theorem Fcyclic_step_ok : PureOk Try.prog 84 Fcyclic_step := pure_mkD (hint := noHint) (d := 0) (n := 70) mixed tabOk envcyclic_stepOk Try.func84 (bodySome (by kernel_rfl)) (by decide +kernel) anncyclic_step_ok decAcyclic_step_ok fncyclic_step_ok fncyclic_step_nat rendcyclic_step_ok
--@ cyclic_State_Add
noncomputable def envcyclic_State_Add : Env := [(84, .pure Fcyclic_step)]
theorem envcyclic_State_AddOk : EnvOk Try.prog envcyclic_State_Add := EnvOk.cons Fcyclic_step_ok (EnvOk.nil)
noncomputable def bcyclic_State_Add : Code := Try.f77.body.getD .skip
noncomputable def Lcyclic_State_Add_n0 : Code := codeAt [1, 1, 0, 1, 0, 0] bcyclic_State_Add
noncomputable def annLcyclic_State_Add_n0 : Ann := .at 1 [0, 1, 4, 14, 15] (.loop .none)
theorem annLcyclic_State_Add_n0_ok : AnnOk Try.prog 29 (.loop Lcyclic_State_Add_n0) annLcyclic_State_Add_n0 := annOk_at (annOk_none _ _ _)
abbrev Icyclic_State_Add_n0 := (List UInt8) × (Int) × (Int)
abbrev Ycyclic_State_Add_n0 := (Int)
abbrev Vcyclic_State_Add_n0 := (Int) × (Int)
def Scyclic_State_Add_n0 : Icyclic_State_Add_n0 → Vcyclic_State_Add_n0 → St := fun (t1, t14, o0_0) (t4, t15) => { env := [(0, AV.ptr 0 0), (1, AV.str t1), (4, AV.int IntKind.u32 t4), (14, AV.int IntKind.i64 t14), (15, AV.int IntKind.i64 t15)], stk := [[(0, AV.ptr 0 0)]], H := [AE.Obj.cells [AV.int IntKind.u32 o0_0]], blk := 315392 }
def deccyclic_State_Add_n0 (s : St) : Option (Icyclic_State_Add_n0 × Vcyclic_State_Add_n0) := match s with
  | { env := [(0, AV.ptr 0 0), (1, AV.str t1), (4, AV.int IntKind.u32 t4), (14, AV.int IntKind.i64 t14), (15, AV.int IntKind.i64 t15)], stk := [[(0, AV.ptr 0 0)]], H := [AE.Obj.cells [AV.int IntKind.u32 o0_0]], blk := 315392 } => some ((t1, t14, o0_0), (t4, t15))
  | _ => none
theorem deccyclic_State_Add_n0_ok (s : St) (x : Icyclic_State_Add_n0 × Vcyclic_State_Add_n0) (h : deccyclic_State_Add_n0 s = some x) : s = Scyclic_State_Add_n0 x.1 x.2 := by
  unfold deccyclic_State_Add_n0 at h
  split at h
  · cases h; rfl
  · cases h
def outcyclic_State_Add_n0 : Icyclic_State_Add_n0 → (Ex → St → Ans) → Ycyclic_State_Add_n0 → Ans := fun (t1, t14, o0_0) K => fun t4_y => K (Ex.exit 0) { env := [(0, AV.ptr 0 0), (4, AV.int IntKind.u32 t4_y)], stk := [[(0, AV.ptr 0 0)]], H := [AE.Obj.cells [AV.int IntKind.u32 o0_0]], blk := 315392 }
def stepcyclic_State_Add_n0 {β : Type} : Icyclic_State_Add_n0 → Vcyclic_State_Add_n0 → (Vcyclic_State_Add_n0 → Option β) → (Ycyclic_State_Add_n0 → Option β) → Option β := fun (t1, t14, o0_0) (t4, t15) next exit => (bif decide (t15 < t14) then (bindO (nth t1 t15) fun x => (bindO (fnDcyclic_step (t4, (↑(UInt8.toNat x) : Int))) fun r => (next (r, IntKind.wrap IntKind.i64 (t15 + (1 : Int)))))) else (exit (t4)))
def stepDcyclic_State_Add_n0 (i : Icyclic_State_Add_n0) (v : Vcyclic_State_Add_n0) : Option (Vcyclic_State_Add_n0 ⊕ Ycyclic_State_Add_n0) := stepcyclic_State_Add_n0 i v (fun v => some (.inl v)) (fun y => some (.inr y))
theorem stepcyclic_State_Add_n0_nat (i : Icyclic_State_Add_n0) (v : Vcyclic_State_Add_n0) (next : Vcyclic_State_Add_n0 → Ans) (exit : Ycyclic_State_Add_n0 → Ans) : stepcyclic_State_Add_n0 i v next exit = bindO (stepDcyclic_State_Add_n0 i v) (Sum.elim next exit) := by
  obtain ⟨t1, t14, o0_0⟩ := i
  obtain ⟨t4, t15⟩ := v
  simp only [stepDcyclic_State_Add_n0, stepcyclic_State_Add_n0, bindO_cond, bindO_assoc, bindO_none, bindO_pure, bindO_elim, bindO_unP, Sum.elim_inl, Sum.elim_inr]
theorem stepcyclic_State_Add_n0_ok (n : Nat) (i : Icyclic_State_Add_n0) (v : Vcyclic_State_Add_n0) (K : Ex → St → Ans) : codeI Try.tab envcyclic_State_Add noHint (codeD Try.tab envcyclic_State_Add noHint 0 64) (n+1) 29 annLcyclic_State_Add_n0 (.loop Lcyclic_State_Add_n0) (weakP 1 (exk [0, 4] [] [(0, [0, 4])]) K) (Scyclic_State_Add_n0 i v) = stepcyclic_State_Add_n0 i v (fun v' => codeI Try.tab envcyclic_State_Add noHint (codeD Try.tab envcyclic_State_Add noHint 0 64) n 29 annLcyclic_State_Add_n0 (.loop Lcyclic_State_Add_n0) (weakP 1 (exk [0, 4] [] [(0, [0, 4])]) K) (Scyclic_State_Add_n0 i v')) (fun y => outcyclic_State_Add_n0 i K y) := by kernel_rfl
theorem GNcyclic_State_Add_n0_ok : CSum Try.prog 29 (.loop Lcyclic_State_Add_n0) (sumL deccyclic_State_Add_n0 stepDcyclic_State_Add_n0 outcyclic_State_Add_n0) := csum_loop mixed tabOk envcyclic_State_AddOk 1 (exk [0, 4] [] [(0, [0, 4])]) annLcyclic_State_Add_n0_ok deccyclic_State_Add_n0_ok stepcyclic_State_Add_n0_ok stepcyclic_State_Add_n0_nat
noncomputable def Gcyclic_State_Add_n0 : (Ex → St → Ans) → St → Ans := (sumL deccyclic_State_Add_n0 stepDcyclic_State_Add_n0 outcyclic_State_Add_n0)
theorem Gcyclic_State_Add_n0_ok : CSum Try.prog 29 (.loop Lcyclic_State_Add_n0) Gcyclic_State_Add_n0 := GNcyclic_State_Add_n0_ok
noncomputable def anncyclic_State_Add : Ann := (.seq .none (.seq .none (.seq (.seq .none (.block (.cut 1 [0, 1, 4, 14, 15] Gcyclic_State_Add_n0))) .none)))
theorem anncyclic_State_Add_ok : AnnOk Try.prog 29 bcyclic_State_Add anncyclic_State_Add := ⟨(annOk_none _ _ _), ⟨(annOk_none _ _ _), ⟨⟨(annOk_none _ _ _), Gcyclic_State_Add_n0_ok⟩, (annOk_none _ _ _)⟩⟩⟩
abbrev Acyclic_State_Add := (List UInt8) × (Int)
abbrev Ycyclic_State_Add := (Int)
def fncyclic_State_Add {β : Type} : Acyclic_State_Add → (Ycyclic_State_Add → Option β) → Option β := fun (a1, o0_0) exit => (bindO (loopD (stepDcyclic_State_Add_n0 (a1, (↑(List.length a1) : Int), o0_0)) FUEL (IntKind.wrap IntKind.u32 (↑(Int.toNat (o0_0 % (4294967296 : Int)) ^^^ (4294967295 : Nat)) : Int), (0 : Int))) fun t4 => (exit (IntKind.wrap IntKind.u32 (↑(Int.toNat (t4 % (4294967296 : Int)) ^^^ (4294967295 : Nat)) : Int))))
def fnDcyclic_State_Add (a : Acyclic_State_Add) : Option Ycyclic_State_Add := fncyclic_State_Add a some
theorem fncyclic_State_Add_nat (a : Acyclic_State_Add) (k : Ycyclic_State_Add → Ans) : fncyclic_State_Add a k = bindO (fnDcyclic_State_Add a) k := by
  obtain ⟨a1, o0_0⟩ := a
  simp only [fnDcyclic_State_Add, fncyclic_State_Add, bindO_cond, bindO_assoc, bindO_none, bindO_pure, bindO_elim, bindO_unP]
def argscyclic_State_Add : Acyclic_State_Add → List AV × List AE.Obj := fun (a1, o0_0) => ([AV.ptr 0 0, AV.str a1], [AE.Obj.cells [AV.int IntKind.u32 o0_0]])
def decAcyclic_State_Add (l : List AV) (H : List AE.Obj) : Option Acyclic_State_Add := match l, H with
  | [AV.ptr 0 0, AV.str a1], [AE.Obj.cells [AV.int IntKind.u32 o0_0]] => some (a1, o0_0)
  | _, _ => none
theorem decAcyclic_State_Add_ok (l : List AV) (H : List AE.Obj) (a : Acyclic_State_Add) (h : decAcyclic_State_Add l H = some a) : (l, H) = argscyclic_State_Add a := by
  unfold decAcyclic_State_Add at h
  split at h
  · cases h; rfl
  · cases h
def outcyclic_State_Add : Acyclic_State_Add → (AV → List AE.Obj → Ans) → Ycyclic_State_Add → Ans := fun (a1, o0_0) K => fun o0_0_y => K (AV.tup []) [AE.Obj.cells [AV.int IntKind.u32 o0_0_y]]
theorem fncyclic_State_Add_ok (a : Acyclic_State_Add) (K : AV → List AE.Obj → Ans) : fnE Try.tab envcyclic_State_Add noHint 0 70 77 Try.f77.ntmps Try.f77.results.toList anncyclic_State_Add bcyclic_State_Add (argscyclic_State_Add a).1 (argscyclic_State_Add a).2 K = fncyclic_State_Add a (outcyclic_State_Add a K) := by kernel_rfl
def vFcyclic_State_Add (a : Acyclic_State_Add) (K : AV → List AE.Obj → Ans) : Ans := bindO (fnDcyclic_State_Add a) fun y => outcyclic_State_Add a K y
def Fcyclic_State_Add : List AV → List AE.Obj → (AV → List AE.Obj → Ans) → Ans := fun l H K => bindO (decAcyclic_State_Add l H) fun a => vFcyclic_State_Add a K
theorem Fcyclic_State_Add_ok : FuncOk Try.prog 77 Fcyclic_State_Add := func_mkD (hint := noHint) (d := 0) (n := 70) mixed tabOk envcyclic_State_AddOk Try.func77 (bodySome (by kernel_rfl)) (by decide +kernel) anncyclic_State_Add_ok decAcyclic_State_Add_ok fncyclic_State_Add_ok fncyclic_State_Add_nat
--@ cyclic_State_Sum
noncomputable def envcyclic_State_Sum : Env := []
theorem envcyclic_State_SumOk : EnvOk Try.prog envcyclic_State_Sum := EnvOk.nil
noncomputable def bcyclic_State_Sum : Code := Try.f78.body.getD .skip
noncomputable def anncyclic_State_Sum : Ann := .none
theorem anncyclic_State_Sum_ok : AnnOk Try.prog 10 bcyclic_State_Sum anncyclic_State_Sum := (annOk_none _ _ _)
abbrev Acyclic_State_Sum := (Int)
abbrev Ycyclic_State_Sum := (Int)
def fncyclic_State_Sum {β : Type} : Acyclic_State_Sum → (Ycyclic_State_Sum → Option β) → Option β := fun o0_0 exit => (exit (IntKind.wrap IntKind.i64 o0_0))
def fnDcyclic_State_Sum (a : Acyclic_State_Sum) : Option Ycyclic_State_Sum := fncyclic_State_Sum a some
theorem fncyclic_State_Sum_nat (a : Acyclic_State_Sum) (k : Ycyclic_State_Sum → Ans) : fncyclic_State_Sum a k = bindO (fnDcyclic_State_Sum a) k := by
  obtain z := a
  simp only [fnDcyclic_State_Sum, fncyclic_State_Sum, bindO_cond, bindO_assoc, bindO_none, bindO_pure, bindO_elim, bindO_unP]
def argscyclic_State_Sum : Acyclic_State_Sum → List AV × List AE.Obj := fun o0_0 => ([AV.ptr 0 0], [AE.Obj.cells [AV.int IntKind.u32 o0_0]])
def decAcyclic_State_Sum (l : List AV) (H : List AE.Obj) : Option Acyclic_State_Sum := match l, H with
  | [AV.ptr 0 0], [AE.Obj.cells [AV.int IntKind.u32 o0_0]] => some (o0_0)
  | _, _ => none
theorem decAcyclic_State_Sum_ok (l : List AV) (H : List AE.Obj) (a : Acyclic_State_Sum) (h : decAcyclic_State_Sum l H = some a) : (l, H) = argscyclic_State_Sum a := by
  unfold decAcyclic_State_Sum at h
  split at h
  · cases h; rfl
  · cases h
def outcyclic_State_Sum : Acyclic_State_Sum → (AV → List AE.Obj → Ans) → Ycyclic_State_Sum → Ans := fun o0_0 K => fun r_y => K (AV.int IntKind.i64 r_y) [AE.Obj.cells [AV.int IntKind.u32 o0_0]]
theorem fncyclic_State_Sum_ok (a : Acyclic_State_Sum) (K : AV → List AE.Obj → Ans) : fnE Try.tab envcyclic_State_Sum noHint 0 70 78 Try.f78.ntmps Try.f78.results.toList anncyclic_State_Sum bcyclic_State_Sum (argscyclic_State_Sum a).1 (argscyclic_State_Sum a).2 K = fncyclic_State_Sum a (outcyclic_State_Sum a K) := by kernel_rfl
def vFcyclic_State_Sum (a : Acyclic_State_Sum) (K : AV → List AE.Obj → Ans) : Ans := bindO (fnDcyclic_State_Sum a) fun y => outcyclic_State_Sum a K y
def Fcyclic_State_Sum : List AV → List AE.Obj → (AV → List AE.Obj → Ans) → Ans := fun l H K => bindO (decAcyclic_State_Sum l H) fun a => vFcyclic_State_Sum a K
theorem Fcyclic_State_Sum_ok : FuncOk Try.prog 78 Fcyclic_State_Sum := func_mkD (hint := noHint) (d := 0) (n := 70) mixed tabOk envcyclic_State_SumOk Try.func78 (bodySome (by kernel_rfl)) (by decide +kernel) anncyclic_State_Sum_ok decAcyclic_State_Sum_ok fncyclic_State_Sum_ok fncyclic_State_Sum_nat
--@ cyclic_Of
noncomputable def envcyclic_Of : Env := [(76, .func Fcyclic_New), (77, .func Fcyclic_State_Add), (78, .func Fcyclic_State_Sum)]
theorem envcyclic_OfOk : EnvOk Try.prog envcyclic_Of := EnvOk.cons Fcyclic_New_ok (EnvOk.cons Fcyclic_State_Add_ok (EnvOk.cons Fcyclic_State_Sum_ok (EnvOk.nil)))
noncomputable def bcyclic_Of : Code := Try.f64.body.getD .skip
noncomputable def anncyclic_Of : Ann := .none
theorem anncyclic_Of_ok : AnnOk Try.prog 10 bcyclic_Of anncyclic_Of := (annOk_none _ _ _)
abbrev Acyclic_Of := (List UInt8)
abbrev Ycyclic_Of := (Int)
def fncyclic_Of {β : Type} : Acyclic_Of → (Ycyclic_Of → Option β) → Option β := fun a0 exit => (bindO (fnDcyclic_New ()) fun _ => (bindO (fnDcyclic_State_Add (a0, (0 : Int))) fun o0_0 => (bindO (fnDcyclic_State_Sum (o0_0)) fun r => (exit (r)))))
def fnDcyclic_Of (a : Acyclic_Of) : Option Ycyclic_Of := fncyclic_Of a some
theorem fncyclic_Of_nat (a : Acyclic_Of) (k : Ycyclic_Of → Ans) : fncyclic_Of a k = bindO (fnDcyclic_Of a) k := by
  obtain z := a
  simp only [fnDcyclic_Of, fncyclic_Of, bindO_cond, bindO_assoc, bindO_none, bindO_pure, bindO_elim, bindO_unP]
def argscyclic_Of : Acyclic_Of → List AV := fun a0 => [AV.str a0]
def decAcyclic_Of (l : List AV) : Option Acyclic_Of := match l with
  | [AV.str a0] => some (a0)
  | _ => none
theorem decAcyclic_Of_ok (l : List AV) (a : Acyclic_Of) (h : decAcyclic_Of l = some a) : l = argscyclic_Of a := by
  unfold decAcyclic_Of at h
  split at h
  · cases h; rfl
  · cases h
def rendcyclic_Of : Acyclic_Of → Ycyclic_Of → AV := fun a0 => fun r_y => AV.int IntKind.i64 r_y
theorem rendcyclic_Of_ok : ∀ (a : Acyclic_Of) (y : Ycyclic_Of), (rendcyclic_Of a y).closed1 = true := by
  rintro z y <;> first | rfl | exact Empty.elim y
theorem fncyclic_Of_ok (a : Acyclic_Of) : fnE Try.tab envcyclic_Of noHint 0 70 64 Try.f64.ntmps Try.f64.results.toList anncyclic_Of bcyclic_Of (argscyclic_Of a) [] (fun v _ => some (v, [])) = fncyclic_Of a (fun y => some (rendcyclic_Of a y, [])) := by kernel_rfl
def vFcyclic_Of (a : Acyclic_Of) (K : AV → Ans) : Ans := bindO (fnDcyclic_Of a) fun y => K (rendcyclic_Of a y)
def Fcyclic_Of : List AV → (AV → Ans) → Ans := fun l K => bindO (decAcyclic_Of l) fun a => vFcyclic_Of a K
theorem Fcyclic_Of_ok : PureOk Try.prog 64 Fcyclic_Of := pure_mkD (hint := noHint) (d := 0) (n := 70) mixed tabOk envcyclic_OfOk Try.func64 (bodySome (by kernel_rfl)) (by decide +kernel) anncyclic_Of_ok decAcyclic_Of_ok fncyclic_Of_ok fncyclic_Of_nat rendcyclic_Of_ok
--@ cyclic_Tail
noncomputable def envcyclic_Tail : Env := [(64, .pure Fcyclic_Of)]
theorem envcyclic_TailOk : EnvOk Try.prog envcyclic_Tail := EnvOk.cons Fcyclic_Of_ok (EnvOk.nil)
noncomputable def bcyclic_Tail : Code := Try.f41.body.getD .skip
noncomputable def Lcyclic_Tail_n1 : Code := codeAt [1, 1, 1, 0, 1, 0, 0] bcyclic_Tail
noncomputable def annLcyclic_Tail_n1 : Ann := .none
theorem annLcyclic_Tail_n1_ok : AnnOk Try.prog 21 Lcyclic_Tail_n1 annLcyclic_Tail_n1 := (annOk_none _ _ _)
abbrev Icyclic_Tail_n1 := (Int) × (Int) × (Int) × (Int) × (Int)
abbrev Ycyclic_Tail_n1 := Unit
def Scyclic_Tail_n1 : Icyclic_Tail_n1 → St := fun (t3, o0_0, o0_1, o0_2, o0_3) => { env := [(3, AV.int IntKind.i64 t3), (4, AV.ptr 0 0), (8, AV.int IntKind.i64 (4))], stk := [[]], H := [AE.Obj.cells [AV.int IntKind.u8 o0_0, AV.int IntKind.u8 o0_1, AV.int IntKind.u8 o0_2, AV.int IntKind.u8 o0_3]], blk := 167936 }
def deccyclic_Tail_n1 (s : St) : Option Icyclic_Tail_n1 := match s with
  | { env := [(3, AV.int IntKind.i64 t3), (4, AV.ptr 0 0), (8, AV.int IntKind.i64 r1)], stk := [[]], H := [AE.Obj.cells [AV.int IntKind.u8 o0_0, AV.int IntKind.u8 o0_1, AV.int IntKind.u8 o0_2, AV.int IntKind.u8 o0_3]], blk := 167936 } => cond (decide (r1 = 4)) (some (t3, o0_0, o0_1, o0_2, o0_3)) none
  | _ => none
theorem deccyclic_Tail_n1_ok (s : St) (x : Icyclic_Tail_n1) (h : deccyclic_Tail_n1 s = some x) : s = Scyclic_Tail_n1 x := by
  unfold deccyclic_Tail_n1 at h
  split at h
  · replace h := cond_noneO h; obtain ⟨hg, h⟩ := h; simp only [Bool.and_eq_true, decide_eq_true_eq] at hg; simp only [hg]; cases h; rfl
  · cases h
def outcyclic_Tail_n1 : Icyclic_Tail_n1 → (Ex → St → Ans) → Ycyclic_Tail_n1 → Ans := fun (t3, o0_0, o0_1, o0_2, o0_3) K => fun _ => K (Ex.exit 0) { env := [(4, AV.ptr 0 0)], stk := [[]], H := [AE.Obj.cells [AV.int IntKind.u8 o0_0, AV.int IntKind.u8 o0_1, AV.int IntKind.u8 o0_2, AV.int IntKind.u8 o0_3]], blk := 167936 }
def nodecyclic_Tail_n1 {β : Type} : Icyclic_Tail_n1 → (Ycyclic_Tail_n1 → Option β) → Option β := fun (t3, o0_0, o0_1, o0_2, o0_3) exit => (exit ())
def nodeDcyclic_Tail_n1 (i : Icyclic_Tail_n1) : Option Ycyclic_Tail_n1 := nodecyclic_Tail_n1 i some
theorem nodecyclic_Tail_n1_nat (i : Icyclic_Tail_n1) (k : Ycyclic_Tail_n1 → Ans) : nodecyclic_Tail_n1 i k = bindO (nodeDcyclic_Tail_n1 i) k := by
  obtain ⟨t3, o0_0, o0_1, o0_2, o0_3⟩ := i
  simp only [nodeDcyclic_Tail_n1, nodecyclic_Tail_n1, bindO_cond, bindO_assoc, bindO_none, bindO_pure, bindO_elim, bindO_unP]
theorem nodecyclic_Tail_n1_ok (i : Icyclic_Tail_n1) (K : Ex → St → Ans) : codeI Try.tab envcyclic_Tail noHint (codeD Try.tab envcyclic_Tail noHint 0 64) 70 21 annLcyclic_Tail_n1 Lcyclic_Tail_n1 (weakP 0 (exk [3, 4, 8] [2] [(0, [4])]) K) (Scyclic_Tail_n1 i) = nodecyclic_Tail_n1 i (outcyclic_Tail_n1 i K) := by kernel_rfl
theorem GNcyclic_Tail_n1_ok : CSum Try.prog 21 Lcyclic_Tail_n1 (sumN deccyclic_Tail_n1 nodeDcyclic_Tail_n1 outcyclic_Tail_n1) := csum_node mixed tabOk envcyclic_TailOk 0 (exk [3, 4, 8] [2] [(0, [4])]) annLcyclic_Tail_n1_ok deccyclic_Tail_n1_ok nodecyclic_Tail_n1_ok nodecyclic_Tail_n1_nat
abbrev Icyclic_Tail_n1v1 := (Int) × (Int) × (Int) × (Int) × (Int)
abbrev Ycyclic_Tail_n1v1 := (Int)
def Scyclic_Tail_n1v1 : Icyclic_Tail_n1v1 → St := fun (t3, o0_0, o0_1, o0_2, o0_3) => { env := [(3, AV.int IntKind.i64 t3), (4, AV.ptr 0 0), (8, AV.int IntKind.i64 (0))], stk := [[]], H := [AE.Obj.cells [AV.int IntKind.u8 o0_0, AV.int IntKind.u8 o0_1, AV.int IntKind.u8 o0_2, AV.int IntKind.u8 o0_3]], blk := 167936 }
def deccyclic_Tail_n1v1 (s : St) : Option Icyclic_Tail_n1v1 := match s with
  | { env := [(3, AV.int IntKind.i64 t3), (4, AV.ptr 0 0), (8, AV.int IntKind.i64 r1)], stk := [[]], H := [AE.Obj.cells [AV.int IntKind.u8 o0_0, AV.int IntKind.u8 o0_1, AV.int IntKind.u8 o0_2, AV.int IntKind.u8 o0_3]], blk := 167936 } => cond (decide (r1 = 0)) (some (t3, o0_0, o0_1, o0_2, o0_3)) none
  | _ => none
theorem deccyclic_Tail_n1v1_ok (s : St) (x : Icyclic_Tail_n1v1) (h : deccyclic_Tail_n1v1 s = some x) : s = Scyclic_Tail_n1v1 x := by
  unfold deccyclic_Tail_n1v1 at h
  split at h
  · replace h := cond_noneO h; obtain ⟨hg, h⟩ := h; simp only [Bool.and_eq_true, decide_eq_true_eq] at hg; simp only [hg]; cases h; rfl
  · cases h
def outcyclic_Tail_n1v1 : Icyclic_Tail_n1v1 → (Ex → St → Ans) → Ycyclic_Tail_n1v1 → Ans := fun (t3, o0_0, o0_1, o0_2, o0_3) K => fun o0_0_y => K (Ex.norm) { env := [(3, AV.int IntKind.i64 t3), (4, AV.ptr 0 0), (8, AV.int IntKind.i64 (1))], stk := [[]], H := [AE.Obj.cells [AV.int IntKind.u8 o0_0_y, AV.int IntKind.u8 o0_1, AV.int IntKind.u8 o0_2, AV.int IntKind.u8 o0_3]], blk := 167937 }
def nodecyclic_Tail_n1v1 {β : Type} : Icyclic_Tail_n1v1 → (Ycyclic_Tail_n1v1 → Option β) → Option β := fun (t3, o0_0, o0_1, o0_2, o0_3) exit => (exit (IntKind.wrap IntKind.u8 (Int.fdiv t3 (1 : Int))))
def nodeDcyclic_Tail_n1v1 (i : Icyclic_Tail_n1v1) : Option Ycyclic_Tail_n1v1 := nodecyclic_Tail_n1v1 i some
theorem nodecyclic_Tail_n1v1_nat (i : Icyclic_Tail_n1v1) (k : Ycyclic_Tail_n1v1 → Ans) : nodecyclic_Tail_n1v1 i k = bindO (nodeDcyclic_Tail_n1v1 i) k := by
  obtain ⟨t3, o0_0, o0_1, o0_2, o0_3⟩ := i
  simp only [nodeDcyclic_Tail_n1v1, nodecyclic_Tail_n1v1, bindO_cond, bindO_assoc, bindO_none, bindO_pure, bindO_elim, bindO_unP]
theorem nodecyclic_Tail_n1v1_ok (i : Icyclic_Tail_n1v1) (K : Ex → St → Ans) : codeI Try.tab envcyclic_Tail noHint (codeD Try.tab envcyclic_Tail noHint 0 64) 70 21 annLcyclic_Tail_n1 Lcyclic_Tail_n1 (weakP 0 (exk [3, 4, 8] [2] [(0, [4])]) K) (Scyclic_Tail_n1v1 i) = nodecyclic_Tail_n1v1 i (outcyclic_Tail_n1v1 i K) := by kernel_rfl
theorem GNcyclic_Tail_n1v1_ok : CSum Try.prog 21 Lcyclic_Tail_n1 (sumN deccyclic_Tail_n1v1 nodeDcyclic_Tail_n1v1 outcyclic_Tail_n1v1) := csum_node mixed tabOk envcyclic_TailOk 0 (exk [3, 4, 8] [2] [(0, [4])]) annLcyclic_Tail_n1_ok deccyclic_Tail_n1v1_ok nodecyclic_Tail_n1v1_ok nodecyclic_Tail_n1v1_nat
abbrev Icyclic_Tail_n1v2 := (Int) × (Int) × (Int) × (Int) × (Int)
abbrev Ycyclic_Tail_n1v2 := (Int)
def Scyclic_Tail_n1v2 : Icyclic_Tail_n1v2 → St := fun (t3, o0_0, o0_1, o0_2, o0_3) => { env := [(3, AV.int IntKind.i64 t3), (4, AV.ptr 0 0), (8, AV.int IntKind.i64 (1))], stk := [[]], H := [AE.Obj.cells [AV.int IntKind.u8 o0_0, AV.int IntKind.u8 o0_1, AV.int IntKind.u8 o0_2, AV.int IntKind.u8 o0_3]], blk := 167936 }
def deccyclic_Tail_n1v2 (s : St) : Option Icyclic_Tail_n1v2 := match s with
  | { env := [(3, AV.int IntKind.i64 t3), (4, AV.ptr 0 0), (8, AV.int IntKind.i64 r1)], stk := [[]], H := [AE.Obj.cells [AV.int IntKind.u8 o0_0, AV.int IntKind.u8 o0_1, AV.int IntKind.u8 o0_2, AV.int IntKind.u8 o0_3]], blk := 167936 } => cond (decide (r1 = 1)) (some (t3, o0_0, o0_1, o0_2, o0_3)) none
  | _ => none
theorem deccyclic_Tail_n1v2_ok (s : St) (x : Icyclic_Tail_n1v2) (h : deccyclic_Tail_n1v2 s = some x) : s = Scyclic_Tail_n1v2 x := by
  unfold deccyclic_Tail_n1v2 at h
  split at h
  · replace h := cond_noneO h; obtain ⟨hg, h⟩ := h; simp only [Bool.and_eq_true, decide_eq_true_eq] at hg; simp only [hg]; cases h; rfl
  · cases h
def outcyclic_Tail_n1v2 : Icyclic_Tail_n1v2 → (Ex → St → Ans) → Ycyclic_Tail_n1v2 → Ans := fun (t3, o0_0, o0_1, o0_2, o0_3) K => fun o0_1_y => K (Ex.norm) { env := [(3, AV.int IntKind.i64 t3), (4, AV.ptr 0 0), (8, AV.int IntKind.i64 (2))], stk := [[]], H := [AE.Obj.cells [AV.int IntKind.u8 o0_0, AV.int IntKind.u8 o0_1_y, AV.int IntKind.u8 o0_2, AV.int IntKind.u8 o0_3]], blk := 167937 }
def nodecyclic_Tail_n1v2 {β : Type} : Icyclic_Tail_n1v2 → (Ycyclic_Tail_n1v2 → Option β) → Option β := fun (t3, o0_0, o0_1, o0_2, o0_3) exit => (exit (IntKind.wrap IntKind.u8 (Int.fdiv t3 (256 : Int))))
def nodeDcyclic_Tail_n1v2 (i : Icyclic_Tail_n1v2) : Option Ycyclic_Tail_n1v2 := nodecyclic_Tail_n1v2 i some
theorem nodecyclic_Tail_n1v2_nat (i : Icyclic_Tail_n1v2) (k : Ycyclic_Tail_n1v2 → Ans) : nodecyclic_Tail_n1v2 i k = bindO (nodeDcyclic_Tail_n1v2 i) k := by
  obtain ⟨t3, o0_0, o0_1, o0_2, o0_3⟩ := i
  simp only [nodeDcyclic_Tail_n1v2, nodecyclic_Tail_n1v2, bindO_cond, bindO_assoc, bindO_none, bindO_pure, bindO_elim, bindO_unP]
theorem nodecyclic_Tail_n1v2_ok (i : Icyclic_Tail_n1v2) (K : Ex → St → Ans) : codeI Try.tab envcyclic_Tail noHint (codeD Try.tab envcyclic_Tail noHint 0 64) 70 21 annLcyclic_Tail_n1 Lcyclic_Tail_n1 (weakP 0 (exk [3, 4, 8] [2] [(0, [4])]) K) (Scyclic_Tail_n1v2 i) = nodecyclic_Tail_n1v2 i (outcyclic_Tail_n1v2 i K) := by kernel_rfl
theorem GNcyclic_Tail_n1v2_ok : CSum Try.prog 21 Lcyclic_Tail_n1 (sumN deccyclic_Tail_n1v2 nodeDcyclic_Tail_n1v2 outcyclic_Tail_n1v2) := csum_node mixed tabOk envcyclic_TailOk 0 (exk [3, 4, 8] [2] [(0, [4])]) annLcyclic_Tail_n1_ok deccyclic_Tail_n1v2_ok nodecyclic_Tail_n1v2_ok nodecyclic_Tail_n1v2_nat
abbrev Icyclic_Tail_n1v3 := (Int) × (Int) × (Int) × (Int) × (Int)
abbrev Ycyclic_Tail_n1v3 := (Int)
def Scyclic_Tail_n1v3 : Icyclic_Tail_n1v3 → St := fun (t3, o0_0, o0_1, o0_2, o0_3) => { env := [(3, AV.int IntKind.i64 t3), (4, AV.ptr 0 0), (8, AV.int IntKind.i64 (2))], stk := [[]], H := [AE.Obj.cells [AV.int IntKind.u8 o0_0, AV.int IntKind.u8 o0_1, AV.int IntKind.u8 o0_2, AV.int IntKind.u8 o0_3]], blk := 167936 }
def deccyclic_Tail_n1v3 (s : St) : Option Icyclic_Tail_n1v3 := match s with
  | { env := [(3, AV.int IntKind.i64 t3), (4, AV.ptr 0 0), (8, AV.int IntKind.i64 r1)], stk := [[]], H := [AE.Obj.cells [AV.int IntKind.u8 o0_0, AV.int IntKind.u8 o0_1, AV.int IntKind.u8 o0_2, AV.int IntKind.u8 o0_3]], blk := 167936 } => cond (decide (r1 = 2)) (some (t3, o0_0, o0_1, o0_2, o0_3)) none
  | _ => none
theorem deccyclic_Tail_n1v3_ok (s : St) (x : Icyclic_Tail_n1v3) (h : deccyclic_Tail_n1v3 s = some x) : s = Scyclic_Tail_n1v3 x := by
  unfold deccyclic_Tail_n1v3 at h
  split at h
  · replace h := cond_noneO h; obtain ⟨hg, h⟩ := h; simp only [Bool.and_eq_true, decide_eq_true_eq] at hg; simp only [hg]; cases h; rfl
  · cases h
def outcyclic_Tail_n1v3 : Icyclic_Tail_n1v3 → (Ex → St → Ans) → Ycyclic_Tail_n1v3 → Ans := fun (t3, o0_0, o0_1, o0_2, o0_3) K => fun o0_2_y => K (Ex.norm) { env := [(3, AV.int IntKind.i64 t3), (4, AV.ptr 0 0), (8, AV.int IntKind.i64 (3))], stk := [[]], H := [AE.Obj.cells [AV.int IntKind.u8 o0_0, AV.int IntKind.u8 o0_1, AV.int IntKind.u8 o0_2_y, AV.int IntKind.u8 o0_3]], blk := 167937 }
def nodecyclic_Tail_n1v3 {β : Type} : Icyclic_Tail_n1v3 → (Ycyclic_Tail_n1v3 → Option β) → Option β := fun (t3, o0_0, o0_1, o0_2, o0_3) exit => (exit (IntKind.wrap IntKind.u8 (Int.fdiv t3 (65536 : Int))))
def nodeDcyclic_Tail_n1v3 (i : Icyclic_Tail_n1v3) : Option Ycyclic_Tail_n1v3 := nodecyclic_Tail_n1v3 i some
theorem nodecyclic_Tail_n1v3_nat (i : Icyclic_Tail_n1v3) (k : Ycyclic_Tail_n1v3 → Ans) : nodecyclic_Tail_n1v3 i k = bindO (nodeDcyclic_Tail_n1v3 i) k := by
  obtain ⟨t3, o0_0, o0_1, o0_2, o0_3⟩ := i
  simp only [nodeDcyclic_Tail_n1v3, nodecyclic_Tail_n1v3, bindO_cond, bindO_assoc, bindO_none, bindO_pure, bindO_elim, bindO_unP]
theorem nodecyclic_Tail_n1v3_ok (i : Icyclic_Tail_n1v3) (K : Ex → St → Ans) : codeI Try.tab envcyclic_Tail noHint (codeD Try.tab envcyclic_Tail noHint 0 64) 70 21 annLcyclic_Tail_n1 Lcyclic_Tail_n1 (weakP 0 (exk [3, 4, 8] [2] [(0, [4])]) K) (Scyclic_Tail_n1v3 i) = nodecyclic_Tail_n1v3 i (outcyclic_Tail_n1v3 i K) := by kernel_rfl
theorem GNcyclic_Tail_n1v3_ok : CSum Try.prog 21 Lcyclic_Tail_n1 (sumN deccyclic_Tail_n1v3 nodeDcyclic_Tail_n1v3 outcyclic_Tail_n1v3) := csum_node mixed tabOk envcyclic_TailOk 0 (exk [3, 4, 8] [2] [(0, [4])]) annLcyclic_Tail_n1_ok deccyclic_Tail_n1v3_ok nodecyclic_Tail_n1v3_ok nodecyclic_Tail_n1v3_nat
abbrev Icyclic_Tail_n1v4 := (Int) × (Int) × (Int) × (Int) × (Int)
abbrev Ycyclic_Tail_n1v4 := (Int)
def Scyclic_Tail_n1v4 : Icyclic_Tail_n1v4 → St := fun (t3, o0_0, o0_1, o0_2, o0_3) => { env := [(3, AV.int IntKind.i64 t3), (4, AV.ptr 0 0), (8, AV.int IntKind.i64 (3))], stk := [[]], H := [AE.Obj.cells [AV.int IntKind.u8 o0_0, AV.int IntKind.u8 o0_1, AV.int IntKind.u8 o0_2, AV.int IntKind.u8 o0_3]], blk := 167936 }
def deccyclic_Tail_n1v4 (s : St) : Option Icyclic_Tail_n1v4 := match s with
  | { env := [(3, AV.int IntKind.i64 t3), (4, AV.ptr 0 0), (8, AV.int IntKind.i64 r1)], stk := [[]], H := [AE.Obj.cells [AV.int IntKind.u8 o0_0, AV.int IntKind.u8 o0_1, AV.int IntKind.u8 o0_2, AV.int IntKind.u8 o0_3]], blk := 167936 } => cond (decide (r1 = 3)) (some (t3, o0_0, o0_1, o0_2, o0_3)) none
  | _ => none
theorem deccyclic_Tail_n1v4_ok (s : St) (x : Icyclic_Tail_n1v4) (h : deccyclic_Tail_n1v4 s = some x) : s = Scyclic_Tail_n1v4 x := by
  unfold deccyclic_Tail_n1v4 at h
  split at h
  · replace h := cond_noneO h; obtain ⟨hg, h⟩ := h; simp only [Bool.and_eq_true, decide_eq_true_eq] at hg; simp only [hg]; cases h; rfl
  · cases h
def outcyclic_Tail_n1v4 : Icyclic_Tail_n1v4 → (Ex → St → Ans) → Ycyclic_Tail_n1v4 → Ans := fun (t3, o0_0, o0_1, o0_2, o0_3) K => fun o0_3_y => K (Ex.norm) { env := [(3, AV.int IntKind.i64 t3), (4, AV.ptr 0 0), (8, AV.int IntKind.i64 (4))], stk := [[]], H := [AE.Obj.cells [AV.int IntKind.u8 o0_0, AV.int IntKind.u8 o0_1, AV.int IntKind.u8 o0_2, AV.int IntKind.u8 o0_3_y]], blk := 167937 }
def nodecyclic_Tail_n1v4 {β : Type} : Icyclic_Tail_n1v4 → (Ycyclic_Tail_n1v4 → Option β) → Option β := fun (t3, o0_0, o0_1, o0_2, o0_3) exit => (exit (IntKind.wrap IntKind.u8 (Int.fdiv t3 (16777216 : Int))))
def nodeDcyclic_Tail_n1v4 (i : Icyclic_Tail_n1v4) : Option Ycyclic_Tail_n1v4 := nodecyclic_Tail_n1v4 i some
theorem nodecyclic_Tail_n1v4_nat (i : Icyclic_Tail_n1v4) (k : Ycyclic_Tail_n1v4 → Ans) : nodecyclic_Tail_n1v4 i k = bindO (nodeDcyclic_Tail_n1v4 i) k := by
  obtain ⟨t3, o0_0, o0_1, o0_2, o0_3⟩ := i
  simp only [nodeDcyclic_Tail_n1v4, nodecyclic_Tail_n1v4, bindO_cond, bindO_assoc, bindO_none, bindO_pure, bindO_elim, bindO_unP]
theorem nodecyclic_Tail_n1v4_ok (i : Icyclic_Tail_n1v4) (K : Ex → St → Ans) : codeI Try.tab envcyclic_Tail noHint (codeD Try.tab envcyclic_Tail noHint 0 64) 70 21 annLcyclic_Tail_n1 Lcyclic_Tail_n1 (weakP 0 (exk [3, 4, 8] [2] [(0, [4])]) K) (Scyclic_Tail_n1v4 i) = nodecyclic_Tail_n1v4 i (outcyclic_Tail_n1v4 i K) := by kernel_rfl
theorem GNcyclic_Tail_n1v4_ok : CSum Try.prog 21 Lcyclic_Tail_n1 (sumN deccyclic_Tail_n1v4 nodeDcyclic_Tail_n1v4 outcyclic_Tail_n1v4) := csum_node mixed tabOk envcyclic_TailOk 0 (exk [3, 4, 8] [2] [(0, [4])]) annLcyclic_Tail_n1_ok deccyclic_Tail_n1v4_ok nodecyclic_Tail_n1v4_ok nodecyclic_Tail_n1v4_nat
noncomputable def Gcyclic_Tail_n1 : (Ex → St → Ans) → St → Ans := (altN deccyclic_Tail_n1 (sumN deccyclic_Tail_n1 nodeDcyclic_Tail_n1 outcyclic_Tail_n1) (altN deccyclic_Tail_n1v1 (sumN deccyclic_Tail_n1v1 nodeDcyclic_Tail_n1v1 outcyclic_Tail_n1v1) (altN deccyclic_Tail_n1v2 (sumN deccyclic_Tail_n1v2 nodeDcyclic_Tail_n1v2 outcyclic_Tail_n1v2) (altN deccyclic_Tail_n1v3 (sumN deccyclic_Tail_n1v3 nodeDcyclic_Tail_n1v3 outcyclic_Tail_n1v3) (sumN deccyclic_Tail_n1v4 nodeDcyclic_Tail_n1v4 outcyclic_Tail_n1v4)))))
theorem Gcyclic_Tail_n1_ok : CSum Try.prog 21 Lcyclic_Tail_n1 Gcyclic_Tail_n1 := (csum_altN GNcyclic_Tail_n1_ok (csum_altN GNcyclic_Tail_n1v1_ok (csum_altN GNcyclic_Tail_n1v2_ok (csum_altN GNcyclic_Tail_n1v3_ok GNcyclic_Tail_n1v4_ok))))
noncomputable def Lcyclic_Tail_n0 : Code := codeAt [1, 1, 1, 0, 1] bcyclic_Tail
noncomputable def annLcyclic_Tail_n0 : Ann := (.block (.at 0 [3, 4, 8] (.loop (.cut 0 [3, 4, 8] Gcyclic_Tail_n1))))
theorem annLcyclic_Tail_n0_ok : AnnOk Try.prog 21 Lcyclic_Tail_n0 annLcyclic_Tail_n0 := (annOk_at Gcyclic_Tail_n1_ok)
abbrev Icyclic_Tail_n0 := (Int)
abbrev Ycyclic_Tail_n0 := (Int) × (Int) × (Int) × (Int)
def Scyclic_Tail_n0 : Icyclic_Tail_n0 → St := fun t3 => { env := [(3, AV.int IntKind.i64 t3), (4, AV.ptr 0 0), (8, AV.int IntKind.i64 (0))], stk := [[]], H := [AE.Obj.cells [AV.int IntKind.u8 (0), AV.int IntKind.u8 (0), AV.int IntKind.u8 (0), AV.int IntKind.u8 (0)]], blk := 167936 }
def deccyclic_Tail_n0 (s : St) : Option Icyclic_Tail_n0 := match s with
  | { env := [(3, AV.int IntKind.i64 t3), (4, AV.ptr 0 0), (8, AV.int IntKind.i64 r1)], stk := [[]], H := [AE.Obj.cells [AV.int IntKind.u8 r2, AV.int IntKind.u8 r3, AV.int IntKind.u8 r4, AV.int IntKind.u8 r5]], blk := 167936 } => cond (decide (r1 = 0) && decide (r2 = 0) && decide (r3 = 0) && decide (r4 = 0) && decide (r5 = 0)) (some (t3)) none
  | _ => none
theorem deccyclic_Tail_n0_ok (s : St) (x : Icyclic_Tail_n0) (h : deccyclic_Tail_n0 s = some x) : s = Scyclic_Tail_n0 x := by
  unfold deccyclic_Tail_n0 at h
  split at h
  · replace h := cond_noneO h; obtain ⟨hg, h⟩ := h; simp only [Bool.and_eq_true, decide_eq_true_eq] at hg; simp only [hg]; cases h; rfl
  · cases h
def outcyclic_Tail_n0 : Icyclic_Tail_n0 → (Ex → St → Ans) → Ycyclic_Tail_n0 → Ans := fun t3 K => unP fun o0_0_y => unP fun o0_1_y => unP fun o0_2_y o0_3_y => K (Ex.norm) { env := [(4, AV.ptr 0 0)], stk := [[]], H := [AE.Obj.cells [AV.int IntKind.u8 o0_0_y, AV.int IntKind.u8 o0_1_y, AV.int IntKind.u8 o0_2_y, AV.int IntKind.u8 o0_3_y]], blk := 167936 }
def nodecyclic_Tail_n0 {β : Type} : Icyclic_Tail_n0 → (Ycyclic_Tail_n0 → Option β) → Option β := fun t3 exit => (bindO (nodeDcyclic_Tail_n1v1 (t3, (0 : Int), (0 : Int), (0 : Int), (0 : Int))) fun o0_0 => (bindO (nodeDcyclic_Tail_n1v2 (t3, o0_0, (0 : Int), (0 : Int), (0 : Int))) fun o0_1 => (bindO (nodeDcyclic_Tail_n1v3 (t3, o0_0, o0_1, (0 : Int), (0 : Int))) fun o0_2 => (bindO (nodeDcyclic_Tail_n1v4 (t3, o0_0, o0_1, o0_2, (0 : Int))) fun o0_3 => (bindO (nodeDcyclic_Tail_n1 (t3, o0_0, o0_1, o0_2, o0_3)) fun _ => (exit (o0_0, o0_1, o0_2, o0_3)))))))
def nodeDcyclic_Tail_n0 (i : Icyclic_Tail_n0) : Option Ycyclic_Tail_n0 := nodecyclic_Tail_n0 i some
theorem nodecyclic_Tail_n0_nat (i : Icyclic_Tail_n0) (k : Ycyclic_Tail_n0 → Ans) : nodecyclic_Tail_n0 i k = bindO (nodeDcyclic_Tail_n0 i) k := by
  obtain z := i
  simp only [nodeDcyclic_Tail_n0, nodecyclic_Tail_n0, bindO_cond, bindO_assoc, bindO_none, bindO_pure, bindO_elim, bindO_unP]
theorem nodecyclic_Tail_n0_ok (i : Icyclic_Tail_n0) (K : Ex → St → Ans) : codeI Try.tab envcyclic_Tail noHint (codeD Try.tab envcyclic_Tail noHint 0 64) 70 21 annLcyclic_Tail_n0 Lcyclic_Tail_n0 (weakP 0 (exk [4] [2] []) K) (Scyclic_Tail_n0 i) = nodecyclic_Tail_n0 i (outcyclic_Tail_n0 i K) := by kernel_rfl
theorem GNcyclic_Tail_n0_ok : CSum Try.prog 21 Lcyclic_Tail_n0 (sumN deccyclic_Tail_n0 nodeDcyclic_Tail_n0 outcyclic_Tail_n0) := csum_node mixed tabOk envcyclic_TailOk 0 (exk [4] [2] []) annLcyclic_Tail_n0_ok deccyclic_Tail_n0_ok nodecyclic_Tail_n0_ok nodecyclic_Tail_n0_nat
noncomputable def Gcyclic_Tail_n0 : (Ex → St → Ans) → St → Ans := (sumN deccyclic_Tail_n0 nodeDcyclic_Tail_n0 outcyclic_Tail_n0)
theorem Gcyclic_Tail_n0_ok : CSum Try.prog 21 Lcyclic_Tail_n0 Gcyclic_Tail_n0 := GNcyclic_Tail_n0_ok
noncomputable def anncyclic_Tail : Ann := (.seq .none (.seq .none (.seq .none (.seq (.seq .none (.cut 0 [3, 4, 8] Gcyclic_Tail_n0)) .none))))
theorem anncyclic_Tail_ok : AnnOk Try.prog 21 bcyclic_Tail anncyclic_Tail := ⟨(annOk_none _ _ _), ⟨(annOk_none _ _ _), ⟨(annOk_none _ _ _), ⟨⟨(annOk_none _ _ _), Gcyclic_Tail_n0_ok⟩, (annOk_none _ _ _)⟩⟩⟩⟩
abbrev Acyclic_Tail := (List UInt8)
abbrev Ycyclic_Tail := (List UInt8)
def fncyclic_Tail {β : Type} : Acyclic_Tail → (Ycyclic_Tail → Option β) → Option β := fun a0 exit => (bindO (fnDcyclic_Of (a0)) fun r => (bindO (nodeDcyclic_Tail_n0 (r)) (unP fun o0_0 => unP fun o0_1 => unP fun o0_2 o0_3 => (exit (bytesOf [o0_0, o0_1, o0_2, o0_3])))))
def fnDcyclic_Tail (a : Acyclic_Tail) : Option Ycyclic_Tail := fncyclic_Tail a some
theorem fncyclic_Tail_nat (a : Acyclic_Tail) (k : Ycyclic_Tail → Ans) : fncyclic_Tail a k = bindO (fnDcyclic_Tail a) k := by
  obtain z := a
  simp only [fnDcyclic_Tail, fncyclic_Tail, bindO_cond, bindO_assoc, bindO_none, bindO_pure, bindO_elim, bindO_unP]
def argscyclic_Tail : Acyclic_Tail → List AV := fun a0 => [AV.str a0]
def decAcyclic_Tail (l : List AV) : Option Acyclic_Tail := match l with
  | [AV.str a0] => some (a0)
  | _ => none
theorem decAcyclic_Tail_ok (l : List AV) (a : Acyclic_Tail) (h : decAcyclic_Tail l = some a) : l = argscyclic_Tail a := by
  unfold decAcyclic_Tail at h
  split at h
  · cases h; rfl
  · cases h
def rendcyclic_Tail : Acyclic_Tail → Ycyclic_Tail → AV := fun a0 => fun r_y => AV.str r_y
theorem rendcyclic_Tail_ok : ∀ (a : Acyclic_Tail) (y : Ycyclic_Tail), (rendcyclic_Tail a y).closed1 = true := by
  rintro z y <;> first | rfl | exact Empty.elim y
theorem fncyclic_Tail_ok (a : Acyclic_Tail) : fnE Try.tab envcyclic_Tail noHint 0 70 41 Try.f41.ntmps Try.f41.results.toList anncyclic_Tail bcyclic_Tail (argscyclic_Tail a) [] (fun v _ => some (v, [])) = fncyclic_Tail a (fun y => some (rendcyclic_Tail a y, [])) := by kernel_rfl
def vFcyclic_Tail (a : Acyclic_Tail) (K : AV → Ans) : Ans := bindO (fnDcyclic_Tail a) fun y => K (rendcyclic_Tail a y)
def Fcyclic_Tail : List AV → (AV → Ans) → Ans := fun l K => bindO (decAcyclic_Tail l) fun a => vFcyclic_Tail a K
theorem Fcyclic_Tail_ok : PureOk Try.prog 41 Fcyclic_Tail := pure_mkD (hint := noHint) (d := 0) (n := 70) mixed tabOk envcyclic_TailOk Try.func41 (bodySome (by kernel_rfl)) (by decide +kernel) anncyclic_Tail_ok decAcyclic_Tail_ok fncyclic_Tail_ok fncyclic_Tail_nat rendcyclic_Tail_ok
--@ logrec_tail
noncomputable def envlogrec_tail : Env := [(41, .pure Fcyclic_Tail)]
theorem envlogrec_tailOk : EnvOk Try.prog envlogrec_tail := EnvOk.cons Fcyclic_Tail_ok (EnvOk.nil)
noncomputable def blogrec_tail : Code := Try.f56.body.getD .skip
noncomputable def annlogrec_tail : Ann := .none
theorem annlogrec_tail_ok : AnnOk Try.prog 9 blogrec_tail annlogrec_tail := (annOk_none _ _ _)
abbrev Alogrec_tail := (List UInt8) × (List UInt8)
abbrev Ylogrec_tail := (List UInt8)
def fnlogrec_tail {β : Type} : Alogrec_tail → (Ylogrec_tail → Option β) → Option β := fun (a0, a1) exit => (bif Nat.ble (List.length a0 + List.length a1) (9223372036854775807 : Nat) then (bindO (fnDcyclic_Tail (a0 ++ a1)) fun r => (exit (r))) else none)
def fnDlogrec_tail (a : Alogrec_tail) : Option Ylogrec_tail := fnlogrec_tail a some
theorem fnlogrec_tail_nat (a : Alogrec_tail) (k : Ylogrec_tail → Ans) : fnlogrec_tail a k = bindO (fnDlogrec_tail a) k := by
  obtain ⟨a0, a1⟩ := a
  simp only [fnDlogrec_tail, fnlogrec_tail, bindO_cond, bindO_assoc, bindO_none, bindO_pure, bindO_elim, bindO_unP]
def argslogrec_tail : Alogrec_tail → List AV := fun (a0, a1) => [AV.str a0, AV.str a1]
def decAlogrec_tail (l : List AV) : Option Alogrec_tail := match l with
  | [AV.str a0, AV.str a1] => some (a0, a1)
  | _ => none
theorem decAlogrec_tail_ok (l : List AV) (a : Alogrec_tail) (h : decAlogrec_tail l = some a) : l = argslogrec_tail a := by
  unfold decAlogrec_tail at h
  split at h
  · cases h; rfl
  · cases h
def rendlogrec_tail : Alogrec_tail → Ylogrec_tail → AV := fun (a0, a1) => fun r_y => AV.str r_y
theorem rendlogrec_tail_ok : ∀ (a : Alogrec_tail) (y : Ylogrec_tail), (rendlogrec_tail a y).closed1 = true := by
  rintro ⟨a0, a1⟩ y <;> first | rfl | exact Empty.elim y
theorem fnlogrec_tail_ok (a : Alogrec_tail) : fnE Try.tab envlogrec_tail noHint 0 70 56 Try.f56.ntmps Try.f56.results.toList annlogrec_tail blogrec_tail (argslogrec_tail a) [] (fun v _ => some (v, [])) = fnlogrec_tail a (fun y => some (rendlogrec_tail a y, [])) := by kernel_rfl
def vFlogrec_tail (a : Alogrec_tail) (K : AV → Ans) : Ans := bindO (fnDlogrec_tail a) fun y => K (rendlogrec_tail a y)
def Flogrec_tail : List AV → (AV → Ans) → Ans := fun l K => bindO (decAlogrec_tail l) fun a => vFlogrec_tail a K
theorem Flogrec_tail_ok : PureOk Try.prog 56 Flogrec_tail := pure_mkD (hint := noHint) (d := 0) (n := 70) mixed tabOk envlogrec_tailOk Try.func56 (bodySome (by kernel_rfl)) (by decide +kernel) annlogrec_tail_ok decAlogrec_tail_ok fnlogrec_tail_ok fnlogrec_tail_nat rendlogrec_tail_ok
--@ region_Pad
noncomputable def envregion_Pad : Env := [(63, .pure Fstrings_Repeat)]
theorem envregion_PadOk : EnvOk Try.prog envregion_Pad := EnvOk.cons Fstrings_Repeat_ok (EnvOk.nil)
noncomputable def bregion_Pad : Code := Try.f40.body.getD .skip
noncomputable def annregion_Pad : Ann := .none
theorem annregion_Pad_ok : AnnOk Try.prog 15 bregion_Pad annregion_Pad := (annOk_none _ _ _)
abbrev Aregion_Pad := (List UInt8)
abbrev Yregion_Pad := (List UInt8)
def fnregion_Pad {β : Type} : Aregion_Pad → (Yregion_Pad → Option β) → Option β := fun a0 exit => (bif decide (Int.tmod (↑(List.length a0) : Int) (64 : Int) > (0 : Int)) then (bindO (fnDstrings_Repeat ([(0 : UInt8)], IntKind.wrap IntKind.i64 ((64 : Int) - Int.tmod (↑(List.length a0) : Int) (64 : Int)))) fun r => (bif Nat.ble (List.length a0 + List.length r) (9223372036854775807 : Nat) then (exit (a0 ++ r)) else none)) else (exit (a0)))
def fnDregion_Pad (a : Aregion_Pad) : Option Yregion_Pad := fnregion_Pad a some
theorem fnregion_Pad_nat (a : Aregion_Pad) (k : Yregion_Pad → Ans) : fnregion_Pad a k = bindO (fnDregion_Pad a) k := by
  obtain z := a
  simp only [fnDregion_Pad, fnregion_Pad, bindO_cond, bindO_assoc, bindO_none, bindO_pure, bindO_elim, bindO_unP]
def argsregion_Pad : Aregion_Pad → List AV := fun a0 => [AV.str a0]
def decAregion_Pad (l : List AV) : Option Aregion_Pad := match l with
  | [AV.str a0] => some (a0)
  | _ => none
theorem decAregion_Pad_ok (l : List AV) (a : Aregion_Pad) (h : decAregion_Pad l = some a) : l = argsregion_Pad a := by
  unfold decAregion_Pad at h
  split at h
  · cases h; rfl
  · cases h
def rendregion_Pad : Aregion_Pad → Yregion_Pad → AV := fun a0 => fun r_y => AV.str r_y
theorem rendregion_Pad_ok : ∀ (a : Aregion_Pad) (y : Yregion_Pad), (rendregion_Pad a y).closed1 = true := by
  rintro z y <;> first | rfl | exact Empty.elim y
theorem fnregion_Pad_ok (a : Aregion_Pad) : fnE Try.tab envregion_Pad noHint 0 70 40 Try.f40.ntmps Try.f40.results.toList annregion_Pad bregion_Pad (argsregion_Pad a) [] (fun v _ => some (v, [])) = fnregion_Pad a (fun y => some (rendregion_Pad a y, [])) := by kernel_rfl
def vFregion_Pad (a : Aregion_Pad) (K : AV → Ans) : Ans := bindO (fnDregion_Pad a) fun y => K (rendregion_Pad a y)
def Fregion_Pad : List AV → (AV → Ans) → Ans := fun l K => bindO (decAregion_Pad l) fun a => vFregion_Pad a K
theorem Fregion_Pad_ok : PureOk Try.prog 40 Fregion_Pad := pure_mkD (hint := noHint) (d := 0) (n := 70) mixed tabOk envregion_PadOk Try.func40 (bodySome (by kernel_rfl)) (by decide +kernel) annregion_Pad_ok decAregion_Pad_ok fnregion_Pad_ok fnregion_Pad_nat rendregion_Pad_ok
--@ logrec_Put
noncomputable def envlogrec_Put : Env := [(57, .func (altF decABuilder_String vFBuilder_String FBuilder_StringAgain)), (31, .pure Flogrec_Check), (38, .pure Ffield_Put), (55, .func Fstrings_Builder_WriteString), (56, .pure Flogrec_tail), (40, .pure Fregion_Pad)]
theorem envlogrec_PutOk : EnvOk Try.prog envlogrec_Put := EnvOk.cons (func_altF FBuilder_String_ok FBuilder_StringAgain_ok) (EnvOk.cons Flogrec_Check_ok (EnvOk.cons Ffield_Put_ok (EnvOk.cons Fstrings_Builder_WriteString_ok (EnvOk.cons Flogrec_tail_ok (EnvOk.cons Fregion_Pad_ok (EnvOk.nil))))))
noncomputable def blogrec_Put : Code := Try.f29.body.getD .skip
noncomputable def Llogrec_Put_n1 : Code := codeAt [1, 1, 1, 1, 1, 0, 1, 0, 0] blogrec_Put
noncomputable def annLlogrec_Put_n1 : Ann := .at 0 [7, 8, 27, 28, 29] (.loop .none)
theorem annLlogrec_Put_n1_ok : AnnOk Try.prog 49 (.loop Llogrec_Put_n1) annLlogrec_Put_n1 := annOk_at (annOk_none _ _ _)
abbrev Ilogrec_Put_n1 := (List (Int × List UInt8)) × (Int)
abbrev Ylogrec_Put_n1 := (List UInt8) × (List Int)
abbrev Vlogrec_Put_n1 := (List UInt8) × (Int) × (List Int)
def Slogrec_Put_n1 : Ilogrec_Put_n1 → Vlogrec_Put_n1 → St := fun (t27, t28) (t7, t29, o1) => { env := [(7, AV.str t7), (8, AV.ptr 0 0), (27, AV.ro (Ty.st (Ty.pair (Ty.int IntKind.i64) Ty.str)) t27), (28, AV.int IntKind.i64 t28), (29, AV.int IntKind.i64 t29)], stk := [[]], H := [Obj.bcells [AV.own 1], Obj.arr (Ty.int IntKind.u8) o1], blk := 118784 }
def declogrec_Put_n1 (s : St) : Option (Ilogrec_Put_n1 × Vlogrec_Put_n1) := match s with
  | { env := [(7, AV.str t7), (8, AV.ptr 0 0), (27, AV.ro (Ty.st (Ty.pair (Ty.int IntKind.i64) Ty.str)) t27), (28, AV.int IntKind.i64 t28), (29, AV.int IntKind.i64 t29)], stk := [[]], H := [Obj.bcells [AV.own 1], Obj.arr (Ty.int IntKind.u8) o1], blk := 118784 } => some ((t27, t28), (t7, t29, o1))
  | _ => none
theorem declogrec_Put_n1_ok (s : St) (x : Ilogrec_Put_n1 × Vlogrec_Put_n1) (h : declogrec_Put_n1 s = some x) : s = Slogrec_Put_n1 x.1 x.2 := by
  unfold declogrec_Put_n1 at h
  split at h
  · cases h; rfl
  · cases h
def outlogrec_Put_n1 : Ilogrec_Put_n1 → (Ex → St → Ans) → Ylogrec_Put_n1 → Ans := fun (t27, t28) K => unP fun t7_y o1_y => K (Ex.exit 0) { env := [(7, AV.str t7_y), (8, AV.ptr 0 0)], stk := [[]], H := [Obj.bcells [AV.own 1], Obj.arr (Ty.int IntKind.u8) o1_y], blk := 118784 }
def steplogrec_Put_n1 {β : Type} : Ilogrec_Put_n1 → Vlogrec_Put_n1 → (Vlogrec_Put_n1 → Option β) → (Ylogrec_Put_n1 → Option β) → Option β := fun (t27, t28) (t7, t29, o1) next exit => (bif decide (t29 < t28) then (bindO (nth t27 t29) fun x => (bindO (fnDfield_Put (t7, x.fst, (2 : Int))) fun r => (bindO (fnDstrings_Builder_WriteString (x.snd, o1)) (unP fun r_0 o1_2 => (next (r, IntKind.wrap IntKind.i64 (t29 + (1 : Int)), o1_2)))))) else (exit (t7, o1)))
def stepDlogrec_Put_n1 (i : Ilogrec_Put_n1) (v : Vlogrec_Put_n1) : Option (Vlogrec_Put_n1 ⊕ Ylogrec_Put_n1) := steplogrec_Put_n1 i v (fun v => some (.inl v)) (fun y => some (.inr y))
theorem steplogrec_Put_n1_nat (i : Ilogrec_Put_n1) (v : Vlogrec_Put_n1) (next : Vlogrec_Put_n1 → Ans) (exit : Ylogrec_Put_n1 → Ans) : steplogrec_Put_n1 i v next exit = bindO (stepDlogrec_Put_n1 i v) (Sum.elim next exit) := by
  obtain ⟨t27, t28⟩ := i
  obtain ⟨t7, t29, o1⟩ := v
  simp only [stepDlogrec_Put_n1, steplogrec_Put_n1, bindO_cond, bindO_assoc, bindO_none, bindO_pure, bindO_elim, bindO_unP, Sum.elim_inl, Sum.elim_inr]
theorem steplogrec_Put_n1_ok (n : Nat) (i : Ilogrec_Put_n1) (v : Vlogrec_Put_n1) (K : Ex → St → Ans) : codeI Try.tab envlogrec_Put noHint (codeD Try.tab envlogrec_Put noHint 0 64) (n+1) 49 annLlogrec_Put_n1 (.loop Llogrec_Put_n1) (weakP 0 (exk [7, 8] [4, 5] [(0, [7, 8])]) K) (Slogrec_Put_n1 i v) = steplogrec_Put_n1 i v (fun v' => codeI Try.tab envlogrec_Put noHint (codeD Try.tab envlogrec_Put noHint 0 64) n 49 annLlogrec_Put_n1 (.loop Llogrec_Put_n1) (weakP 0 (exk [7, 8] [4, 5] [(0, [7, 8])]) K) (Slogrec_Put_n1 i v')) (fun y => outlogrec_Put_n1 i K y) := by kernel_rfl
theorem GNlogrec_Put_n1_ok : CSum Try.prog 49 (.loop Llogrec_Put_n1) (sumL declogrec_Put_n1 stepDlogrec_Put_n1 outlogrec_Put_n1) := csum_loop mixed tabOk envlogrec_PutOk 0 (exk [7, 8] [4, 5] [(0, [7, 8])]) annLlogrec_Put_n1_ok declogrec_Put_n1_ok steplogrec_Put_n1_ok steplogrec_Put_n1_nat
noncomputable def Glogrec_Put_n1 : (Ex → St → Ans) → St → Ans := (sumL declogrec_Put_n1 stepDlogrec_Put_n1 outlogrec_Put_n1)
theorem Glogrec_Put_n1_ok : CSum Try.prog 49 (.loop Llogrec_Put_n1) Glogrec_Put_n1 := GNlogrec_Put_n1_ok
noncomputable def Llogrec_Put_n0 : Code := codeAt [1, 0, 0] blogrec_Put
noncomputable def annLlogrec_Put_n0 : Ann := .none
theorem annLlogrec_Put_n0_ok : AnnOk Try.prog 49 Llogrec_Put_n0 annLlogrec_Put_n0 := (annOk_none _ _ _)
abbrev Ilogrec_Put_n0 := (Int) × (List (Int × List UInt8))
abbrev Ylogrec_Put_n0 := (Bool)
def Slogrec_Put_n0 : Ilogrec_Put_n0 → St := fun (t0, t1) => { env := [(0, AV.int IntKind.i64 t0), (1, AV.ro (Ty.st (Ty.pair (Ty.int IntKind.i64) Ty.str)) t1)], stk := [[]], H := [], blk := 118784 }
def declogrec_Put_n0 (s : St) : Option Ilogrec_Put_n0 := match s with
  | { env := [(0, AV.int IntKind.i64 t0), (1, AV.ro (Ty.st (Ty.pair (Ty.int IntKind.i64) Ty.str)) t1)], stk := [[]], H := [], blk := 118784 } => some (t0, t1)
  | _ => none
theorem declogrec_Put_n0_ok (s : St) (x : Ilogrec_Put_n0) (h : declogrec_Put_n0 s = some x) : s = Slogrec_Put_n0 x := by
  unfold declogrec_Put_n0 at h
  split at h
  · cases h; rfl
  · cases h
def outlogrec_Put_n0 : Ilogrec_Put_n0 → (Ex → St → Ans) → Ylogrec_Put_n0 → Ans := fun (t0, t1) K => fun t16_y => K (Ex.norm) { env := [(0, AV.int IntKind.i64 t0), (1, AV.ro (Ty.st (Ty.pair (Ty.int IntKind.i64) Ty.str)) t1), (16, AV.bool t16_y)], stk := [[]], H := [], blk := 118784 }
def nodelogrec_Put_n0 {β : Type} : Ilogrec_Put_n0 → (Ylogrec_Put_n0 → Option β) → Option β := fun (t0, t1) exit => (bif decide (t0 < (0 : Int)) then (exit (true)) else (exit (decide (t0 ≥ (281474976710656 : Int)))))
def nodeDlogrec_Put_n0 (i : Ilogrec_Put_n0) : Option Ylogrec_Put_n0 := nodelogrec_Put_n0 i some
theorem nodelogrec_Put_n0_nat (i : Ilogrec_Put_n0) (k : Ylogrec_Put_n0 → Ans) : nodelogrec_Put_n0 i k = bindO (nodeDlogrec_Put_n0 i) k := by
  obtain ⟨t0, t1⟩ := i
  simp only [nodeDlogrec_Put_n0, nodelogrec_Put_n0, bindO_cond, bindO_assoc, bindO_none, bindO_pure, bindO_elim, bindO_unP]
theorem nodelogrec_Put_n0_ok (i : Ilogrec_Put_n0) (K : Ex → St → Ans) : codeI Try.tab envlogrec_Put noHint (codeD Try.tab envlogrec_Put noHint 0 64) 70 49 annLlogrec_Put_n0 Llogrec_Put_n0 (weakP 0 (exk [0, 1, 16] [4, 5] []) K) (Slogrec_Put_n0 i) = nodelogrec_Put_n0 i (outlogrec_Put_n0 i K) := by kernel_rfl
theorem GNlogrec_Put_n0_ok : CSum Try.prog 49 Llogrec_Put_n0 (sumN declogrec_Put_n0 nodeDlogrec_Put_n0 outlogrec_Put_n0) := csum_node mixed tabOk envlogrec_PutOk 0 (exk [0, 1, 16] [4, 5] []) annLlogrec_Put_n0_ok declogrec_Put_n0_ok nodelogrec_Put_n0_ok nodelogrec_Put_n0_nat
noncomputable def Glogrec_Put_n0 : (Ex → St → Ans) → St → Ans := (sumN declogrec_Put_n0 nodeDlogrec_Put_n0 outlogrec_Put_n0)
theorem Glogrec_Put_n0_ok : CSum Try.prog 49 Llogrec_Put_n0 Glogrec_Put_n0 := GNlogrec_Put_n0_ok
noncomputable def annlogrec_Put : Ann := (.seq .none (.seq (.seq (.cut 0 [0, 1] Glogrec_Put_n0) .none) (.seq .none (.seq .none (.seq .none (.seq (.seq .none (.block (.cut 0 [7, 8, 27, 28, 29] Glogrec_Put_n1))) .none))))))
theorem annlogrec_Put_ok : AnnOk Try.prog 49 blogrec_Put annlogrec_Put := ⟨(annOk_none _ _ _), ⟨⟨Glogrec_Put_n0_ok, (annOk_none _ _ _)⟩, ⟨(annOk_none _ _ _), ⟨(annOk_none _ _ _), ⟨(annOk_none _ _ _), ⟨⟨(annOk_none _ _ _), Glogrec_Put_n1_ok⟩, (annOk_none _ _ _)⟩⟩⟩⟩⟩⟩
abbrev Alogrec_Put := (Int) × (List (Int × List UInt8))
abbrev Ylogrec_Put := (List UInt8) × (Int)
def fnlogrec_Put {β : Type} : Alogrec_Put → (Ylogrec_Put → Option β) → Option β := fun (a0, a1) exit => (bindO (nodeDlogrec_Put_n0 (a0, a1)) fun t16 => (bif t16 then (exit ([], (3 : Int))) else (bindO (fnDlogrec_Check (a1)) fun r => (bif r != (0 : Int) then (exit ([], r)) else (bindO (fnDfield_Put ([(82 : UInt8)], a0, (6 : Int))) fun r_2 => (bindO (fnDfield_Put (r_2, (↑(List.length a1) : Int), (1 : Int))) fun r_3 => (bindO (loopD (stepDlogrec_Put_n1 (a1, (↑(List.length a1) : Int))) FUEL (r_3, (0 : Int), [])) (unP fun t7 o1 => (bindO (fnDBuilder_String (o1)) (unP fun r_4 o0 => (bindO (fnDlogrec_tail (t7, r_4)) fun r_5 => (bif Nat.ble (List.length t7 + List.length r_5) (9223372036854775807 : Nat) then (bindO (fnDregion_Pad (t7 ++ r_5)) fun r_6 => (bindO (fnDBuilder_StringAgain (o0)) (unP fun r_7 o0_2 => (bif Nat.ble (List.length r_6 + List.length r_7) (9223372036854775807 : Nat) then (exit (r_6 ++ r_7, (0 : Int))) else none)))) else none))))))))))))
def fnDlogrec_Put (a : Alogrec_Put) : Option Ylogrec_Put := fnlogrec_Put a some
theorem fnlogrec_Put_nat (a : Alogrec_Put) (k : Ylogrec_Put → Ans) : fnlogrec_Put a k = bindO (fnDlogrec_Put a) k := by
  obtain ⟨a0, a1⟩ := a
  simp only [fnDlogrec_Put, fnlogrec_Put, bindO_cond, bindO_assoc, bindO_none, bindO_pure, bindO_elim, bindO_unP]
def argslogrec_Put : Alogrec_Put → List AV := fun (a0, a1) => [AV.int IntKind.i64 a0, AV.ro (Ty.st (Ty.pair (Ty.int IntKind.i64) Ty.str)) a1]
def decAlogrec_Put (l : List AV) : Option Alogrec_Put := match l with
  | [AV.int IntKind.i64 a0, AV.ro (Ty.st (Ty.pair (Ty.int IntKind.i64) Ty.str)) a1] => some (a0, a1)
  | _ => none
theorem decAlogrec_Put_ok (l : List AV) (a : Alogrec_Put) (h : decAlogrec_Put l = some a) : l = argslogrec_Put a := by
  unfold decAlogrec_Put at h
  split at h
  · cases h; rfl
  · cases h
def rendlogrec_Put : Alogrec_Put → Ylogrec_Put → AV := fun (a0, a1) => unP fun r_0_y r_1_y => AV.tup [AV.str r_0_y, AV.int IntKind.i64 r_1_y]
theorem rendlogrec_Put_ok : ∀ (a : Alogrec_Put) (y : Ylogrec_Put), (rendlogrec_Put a y).closed1 = true := by
  rintro ⟨a0, a1⟩ y <;> first | rfl | exact Empty.elim y
theorem fnlogrec_Put_ok (a : Alogrec_Put) : fnE Try.tab envlogrec_Put noHint 0 70 29 Try.f29.ntmps Try.f29.results.toList annlogrec_Put blogrec_Put (argslogrec_Put a) [] (fun v _ => some (v, [])) = fnlogrec_Put a (fun y => some (rendlogrec_Put a y, [])) := by kernel_rfl
def vFlogrec_Put (a : Alogrec_Put) (K : AV → Ans) : Ans := bindO (fnDlogrec_Put a) fun y => K (rendlogrec_Put a y)
def Flogrec_Put : List AV → (AV → Ans) → Ans := fun l K => bindO (decAlogrec_Put l) fun a => vFlogrec_Put a K
theorem Flogrec_Put_ok : PureOk Try.prog 29 Flogrec_Put := pure_mkD (hint := noHint) (d := 0) (n := 70) mixed tabOk envlogrec_PutOk Try.func29 (bodySome (by kernel_rfl)) (by decide +kernel) annlogrec_Put_ok decAlogrec_Put_ok fnlogrec_Put_ok fnlogrec_Put_nat rendlogrec_Put_ok
--@ field_New
noncomputable def envfield_New : Env := []
theorem envfield_NewOk : EnvOk Try.prog envfield_New := EnvOk.nil
noncomputable def bfield_New : Code := Try.f48.body.getD .skip
noncomputable def annfield_New : Ann := .none
theorem annfield_New_ok : AnnOk Try.prog 6 bfield_New annfield_New := (annOk_none _ _ _)
abbrev Afield_New := (List UInt8)
abbrev Yfield_New := Unit
def fnfield_New {β : Type} : Afield_New → (Yfield_New → Option β) → Option β := fun a0 exit => (exit ())
def fnDfield_New (a : Afield_New) : Option Yfield_New := fnfield_New a some
theorem fnfield_New_nat (a : Afield_New) (k : Yfield_New → Ans) : fnfield_New a k = bindO (fnDfield_New a) k := by
  obtain z := a
  simp only [fnDfield_New, fnfield_New, bindO_cond, bindO_assoc, bindO_none, bindO_pure, bindO_elim, bindO_unP]
def argsfield_New : Afield_New → List AV × List AE.Obj := fun a0 => ([AV.str a0], [])
def decAfield_New (l : List AV) (H : List AE.Obj) : Option Afield_New := match l, H with
  | [AV.str a0], [] => some (a0)
  | _, _ => none
theorem decAfield_New_ok (l : List AV) (H : List AE.Obj) (a : Afield_New) (h : decAfield_New l H = some a) : (l, H) = argsfield_New a := by
  unfold decAfield_New at h
  split at h
  · cases h; rfl
  · cases h
def outfield_New : Afield_New → (AV → List AE.Obj → Ans) → Yfield_New → Ans := fun a0 K => fun _ => K (AV.ptr 0 0) [AE.Obj.cells [AV.str a0, AV.int IntKind.i64 (0)]]
theorem fnfield_New_ok (a : Afield_New) (K : AV → List AE.Obj → Ans) : fnE Try.tab envfield_New noHint 0 70 48 Try.f48.ntmps Try.f48.results.toList annfield_New bfield_New (argsfield_New a).1 (argsfield_New a).2 K = fnfield_New a (outfield_New a K) := by kernel_rfl
def vFfield_New (a : Afield_New) (K : AV → List AE.Obj → Ans) : Ans := bindO (fnDfield_New a) fun y => outfield_New a K y
def Ffield_New : List AV → List AE.Obj → (AV → List AE.Obj → Ans) → Ans := fun l H K => bindO (decAfield_New l H) fun a => vFfield_New a K
theorem Ffield_New_ok : FuncOk Try.prog 48 Ffield_New := func_mkD (hint := noHint) (d := 0) (n := 70) mixed tabOk envfield_NewOk Try.func48 (bodySome (by kernel_rfl)) (by decide +kernel) annfield_New_ok decAfield_New_ok fnfield_New_ok fnfield_New_nat
--@ field_Reader_fail
noncomputable def envfield_Reader_fail : Env := []
theorem envfield_Reader_failOk : EnvOk Try.prog envfield_Reader_fail := EnvOk.nil
noncomputable def bfield_Reader_fail : Code := Try.f67.body.getD .skip
noncomputable def annfield_Reader_fail : Ann := .none
theorem annfield_Reader_fail_ok : AnnOk Try.prog 13 bfield_Reader_fail annfield_Reader_fail := (annOk_none _ _ _)
abbrev Afield_Reader_fail := (Int) × (List UInt8) × (Int)
abbrev Yfield_Reader_fail := (Int)
def fnfield_Reader_fail {β : Type} : Afield_Reader_fail → (Yfield_Reader_fail → Option β) → Option β := fun (a1, o0_0, o0_1) exit => (bif o0_1 == (0 : Int) then (exit (a1)) else (exit (o0_1)))
def fnDfield_Reader_fail (a : Afield_Reader_fail) : Option Yfield_Reader_fail := fnfield_Reader_fail a some
theorem fnfield_Reader_fail_nat (a : Afield_Reader_fail) (k : Yfield_Reader_fail → Ans) : fnfield_Reader_fail a k = bindO (fnDfield_Reader_fail a) k := by
  obtain ⟨a1, o0_0, o0_1⟩ := a
  simp only [fnDfield_Reader_fail, fnfield_Reader_fail, bindO_cond, bindO_assoc, bindO_none, bindO_pure, bindO_elim, bindO_unP]
def argsfield_Reader_fail : Afield_Reader_fail → List AV × List AE.Obj := fun (a1, o0_0, o0_1) => ([AV.ptr 0 0, AV.int IntKind.i64 a1], [AE.Obj.cells [AV.str o0_0, AV.int IntKind.i64 o0_1]])
def decAfield_Reader_fail (l : List AV) (H : List AE.Obj) : Option Afield_Reader_fail := match l, H with
  | [AV.ptr 0 0, AV.int IntKind.i64 a1], [AE.Obj.cells [AV.str o0_0, AV.int IntKind.i64 o0_1]] => some (a1, o0_0, o0_1)
  | _, _ => none
theorem decAfield_Reader_fail_ok (l : List AV) (H : List AE.Obj) (a : Afield_Reader_fail) (h : decAfield_Reader_fail l H = some a) : (l, H) = argsfield_Reader_fail a := by
  unfold decAfield_Reader_fail at h
  split at h
  · cases h; rfl
  · cases h
def outfield_Reader_fail : Afield_Reader_fail → (AV → List AE.Obj → Ans) → Yfield_Reader_fail → Ans := fun (a1, o0_0, o0_1) K => fun o0_1_y => K (AV.tup []) [AE.Obj.cells [AV.str o0_0, AV.int IntKind.i64 o0_1_y]]
theorem fnfield_Reader_fail_ok (a : Afield_Reader_fail) (K : AV → List AE.Obj → Ans) : fnE Try.tab envfield_Reader_fail noHint 0 70 67 Try.f67.ntmps Try.f67.results.toList annfield_Reader_fail bfield_Reader_fail (argsfield_Reader_fail a).1 (argsfield_Reader_fail a).2 K = fnfield_Reader_fail a (outfield_Reader_fail a K) := by kernel_rfl
def vFfield_Reader_fail (a : Afield_Reader_fail) (K : AV → List AE.Obj → Ans) : Ans := bindO (fnDfield_Reader_fail a) fun y => outfield_Reader_fail a K y
def Ffield_Reader_fail : List AV → List AE.Obj → (AV → List AE.Obj → Ans) → Ans := fun l H K => bindO (decAfield_Reader_fail l H) fun a => vFfield_Reader_fail a K
theorem Ffield_Reader_fail_ok : FuncOk Try.prog 67 Ffield_Reader_fail := func_mkD (hint := noHint) (d := 0) (n := 70) mixed tabOk envfield_Reader_failOk Try.func67 (bodySome (by kernel_rfl)) (by decide +kernel) annfield_Reader_fail_ok decAfield_Reader_fail_ok fnfield_Reader_fail_ok fnfield_Reader_fail_nat
--@ field_Reader_Bytes
noncomputable def envfield_Reader_Bytes : Env := [(67, .func Ffield_Reader_fail)]
theorem envfield_Reader_BytesOk : EnvOk Try.prog envfield_Reader_Bytes := EnvOk.cons Ffield_Reader_fail_ok (EnvOk.nil)
noncomputable def bfield_Reader_Bytes : Code := Try.f49.body.getD .skip
noncomputable def Lfield_Reader_Bytes_n0 : Code := codeAt [1, 1, 0, 1] bfield_Reader_Bytes
noncomputable def annLfield_Reader_Bytes_n0 : Ann := .none
theorem annLfield_Reader_Bytes_n0_ok : AnnOk Try.prog 42 Lfield_Reader_Bytes_n0 annLfield_Reader_Bytes_n0 := (annOk_none _ _ _)
abbrev Ifield_Reader_Bytes_n0 := (Int) × (Bool) × (List UInt8) × (Int)
abbrev Yfield_Reader_Bytes_n0 := (Int)
def Sfield_Reader_Bytes_n0 : Ifield_Reader_Bytes_n0 → St := fun (t1, t9, o0_0, o0_1) => { env := [(0, AV.ptr 0 0), (1, AV.int IntKind.i64 t1), (9, AV.bool t9)], stk := [[(0, AV.ptr 0 0)]], H := [AE.Obj.cells [AV.str o0_0, AV.int IntKind.i64 o0_1]], blk := 200704 }
def decfield_Reader_Bytes_n0 (s : St) : Option Ifield_Reader_Bytes_n0 := match s with
  | { env := [(0, AV.ptr 0 0), (1, AV.int IntKind.i64 t1), (9, AV.bool t9)], stk := [[(0, AV.ptr 0 0)]], H := [AE.Obj.cells [AV.str o0_0, AV.int IntKind.i64 o0_1]], blk := 200704 } => some (t1, t9, o0_0, o0_1)
  | _ => none
theorem decfield_Reader_Bytes_n0_ok (s : St) (x : Ifield_Reader_Bytes_n0) (h : decfield_Reader_Bytes_n0 s = some x) : s = Sfield_Reader_Bytes_n0 x := by
  unfold decfield_Reader_Bytes_n0 at h
  split at h
  · cases h; rfl
  · cases h
def outfield_Reader_Bytes_n0 : Ifield_Reader_Bytes_n0 → (Ex → St → Ans) → Yfield_Reader_Bytes_n0 → Ans := fun (t1, t9, o0_0, o0_1) K => fun o0_1_y => K (Ex.norm) { env := [(0, AV.ptr 0 0), (1, AV.int IntKind.i64 t1)], stk := [[(0, AV.ptr 0 0)]], H := [AE.Obj.cells [AV.str o0_0, AV.int IntKind.i64 o0_1_y]], blk := 200704 }
def nodefield_Reader_Bytes_n0 {β : Type} : Ifield_Reader_Bytes_n0 → (Yfield_Reader_Bytes_n0 → Option β) → Option β := fun (t1, t9, o0_0, o0_1) exit => (bif t9 then (bindO (fnDfield_Reader_fail ((3 : Int), o0_0, o0_1)) fun o0_1_2 => (exit (o0_1_2))) else (bif decide (t1 > (↑(List.length o0_0) : Int)) then (bindO (fnDfield_Reader_fail ((1 : Int), o0_0, o0_1)) fun o0_1_2 => (exit (o0_1_2))) else (exit (o0_1))))
def nodeDfield_Reader_Bytes_n0 (i : Ifield_Reader_Bytes_n0) : Option Yfield_Reader_Bytes_n0 := nodefield_Reader_Bytes_n0 i some
theorem nodefield_Reader_Bytes_n0_nat (i : Ifield_Reader_Bytes_n0) (k : Yfield_Reader_Bytes_n0 → Ans) : nodefield_Reader_Bytes_n0 i k = bindO (nodeDfield_Reader_Bytes_n0 i) k := by
  obtain ⟨t1, t9, o0_0, o0_1⟩ := i
  simp only [nodeDfield_Reader_Bytes_n0, nodefield_Reader_Bytes_n0, bindO_cond, bindO_assoc, bindO_none, bindO_pure, bindO_elim, bindO_unP]
theorem nodefield_Reader_Bytes_n0_ok (i : Ifield_Reader_Bytes_n0) (K : Ex → St → Ans) : codeI Try.tab envfield_Reader_Bytes noHint (codeD Try.tab envfield_Reader_Bytes noHint 0 64) 70 42 annLfield_Reader_Bytes_n0 Lfield_Reader_Bytes_n0 (weakP 1 (exk [0, 1] [4] []) K) (Sfield_Reader_Bytes_n0 i) = nodefield_Reader_Bytes_n0 i (outfield_Reader_Bytes_n0 i K) := by kernel_rfl
theorem GNfield_Reader_Bytes_n0_ok : CSum Try.prog 42 Lfield_Reader_Bytes_n0 (sumN decfield_Reader_Bytes_n0 nodeDfield_Reader_Bytes_n0 outfield_Reader_Bytes_n0) := csum_node mixed tabOk envfield_Reader_BytesOk 1 (exk [0, 1] [4] []) annLfield_Reader_Bytes_n0_ok decfield_Reader_Bytes_n0_ok nodefield_Reader_Bytes_n0_ok nodefield_Reader_Bytes_n0_nat
noncomputable def Gfield_Reader_Bytes_n0 : (Ex → St → Ans) → St → Ans := (sumN decfield_Reader_Bytes_n0 nodeDfield_Reader_Bytes_n0 outfield_Reader_Bytes_n0)
theorem Gfield_Reader_Bytes_n0_ok : CSum Try.prog 42 Lfield_Reader_Bytes_n0 Gfield_Reader_Bytes_n0 := GNfield_Reader_Bytes_n0_ok
noncomputable def annfield_Reader_Bytes : Ann := (.seq .none (.seq .none (.seq (.seq .none (.cut 1 [0, 1, 9] Gfield_Reader_Bytes_n0)) .none)))
theorem annfield_Reader_Bytes_ok : AnnOk Try.prog 42 bfield_Reader_Bytes annfield_Reader_Bytes := ⟨(annOk_none _ _ _), ⟨(annOk_none _ _ _), ⟨⟨(annOk_none _ _ _), Gfield_Reader_Bytes_n0_ok⟩, (annOk_none _ _ _)⟩⟩⟩
abbrev Afield_Reader_Bytes := (Int) × (List UInt8) × (Int)
abbrev Yfield_Reader_Bytes := (List UInt8) × (List UInt8) × (Int)
def fnfield_Reader_Bytes {β : Type} : Afield_Reader_Bytes → (Yfield_Reader_Bytes → Option β) → Option β := fun (a1, o0_0, o0_1) exit => (bindO (nodeDfield_Reader_Bytes_n0 (a1, decide (a1 < (0 : Int)), o0_0, o0_1)) fun o0_1_2 => (bif o0_1_2 != (0 : Int) then (exit ([], o0_0, o0_1_2)) else (bif inR a1 (List.length o0_0 + (1 : Nat)) then (bif inR a1 (List.length o0_0 + (1 : Nat)) then (exit (List.take (Int.toNat a1) o0_0, List.drop (Int.toNat a1) o0_0, o0_1_2)) else none) else none)))
def fnDfield_Reader_Bytes (a : Afield_Reader_Bytes) : Option Yfield_Reader_Bytes := fnfield_Reader_Bytes a some
theorem fnfield_Reader_Bytes_nat (a : Afield_Reader_Bytes) (k : Yfield_Reader_Bytes → Ans) : fnfield_Reader_Bytes a k = bindO (fnDfield_Reader_Bytes a) k := by
  obtain ⟨a1, o0_0, o0_1⟩ := a
  simp only [fnDfield_Reader_Bytes, fnfield_Reader_Bytes, bindO_cond, bindO_assoc, bindO_none, bindO_pure, bindO_elim, bindO_unP]
def argsfield_Reader_Bytes : Afield_Reader_Bytes → List AV × List AE.Obj := fun (a1, o0_0, o0_1) => ([AV.ptr 0 0, AV.int IntKind.i64 a1], [AE.Obj.cells [AV.str o0_0, AV.int IntKind.i64 o0_1]])
def decAfield_Reader_Bytes (l : List AV) (H : List AE.Obj) : Option Afield_Reader_Bytes := match l, H with
  | [AV.ptr 0 0, AV.int IntKind.i64 a1], [AE.Obj.cells [AV.str o0_0, AV.int IntKind.i64 o0_1]] => some (a1, o0_0, o0_1)
  | _, _ => none
theorem decAfield_Reader_Bytes_ok (l : List AV) (H : List AE.Obj) (a : Afield_Reader_Bytes) (h : decAfield_Reader_Bytes l H = some a) : (l, H) = argsfield_Reader_Bytes a := by
  unfold decAfield_Reader_Bytes at h
  split at h
  · cases h; rfl
  · cases h
def outfield_Reader_Bytes : Afield_Reader_Bytes → (AV → List AE.Obj → Ans) → Yfield_Reader_Bytes → Ans := fun (a1, o0_0, o0_1) K => unP fun r_y => unP fun o0_0_y o0_1_y => K (AV.str r_y) [AE.Obj.cells [AV.str o0_0_y, AV.int IntKind.i64 o0_1_y]]
theorem fnfield_Reader_Bytes_ok (a : Afield_Reader_Bytes) (K : AV → List AE.Obj → Ans) : fnE Try.tab envfield_Reader_Bytes noHint 0 70 49 Try.f49.ntmps Try.f49.results.toList annfield_Reader_Bytes bfield_Reader_Bytes (argsfield_Reader_Bytes a).1 (argsfield_Reader_Bytes a).2 K = fnfield_Reader_Bytes a (outfield_Reader_Bytes a K) := by kernel_rfl
def vFfield_Reader_Bytes (a : Afield_Reader_Bytes) (K : AV → List AE.Obj → Ans) : Ans := bindO (fnDfield_Reader_Bytes a) fun y => outfield_Reader_Bytes a K y
def Ffield_Reader_Bytes : List AV → List AE.Obj → (AV → List AE.Obj → Ans) → Ans := fun l H K => bindO (decAfield_Reader_Bytes l H) fun a => vFfield_Reader_Bytes a K
theorem Ffield_Reader_Bytes_ok : FuncOk Try.prog 49 Ffield_Reader_Bytes := func_mkD (hint := noHint) (d := 0) (n := 70) mixed tabOk envfield_Reader_BytesOk Try.func49 (bodySome (by kernel_rfl)) (by decide +kernel) annfield_Reader_Bytes_ok decAfield_Reader_Bytes_ok fnfield_Reader_Bytes_ok fnfield_Reader_Bytes_nat
--@ field_Reader_Num
noncomputable def envfield_Reader_Num : Env := [(68, .pure Ffield_width), (67, .func Ffield_Reader_fail), (49, .func Ffield_Reader_Bytes)]
theorem envfield_Reader_NumOk : EnvOk Try.prog envfield_Reader_Num := EnvOk.cons Ffield_width_ok (EnvOk.cons Ffield_Reader_fail_ok (EnvOk.cons Ffield_Reader_Bytes_ok (EnvOk.nil)))
noncomputable def bfield_Reader_Num : Code := Try.f50.body.getD .skip
noncomputable def Lfield_Reader_Num_n0 : Code := codeAt [1, 1, 1, 1, 0, 1, 0, 0] bfield_Reader_Num
noncomputable def annLfield_Reader_Num_n0 : Ann := .at 1 [5, 18, 19, 20] (.loop .none)
theorem annLfield_Reader_Num_n0_ok : AnnOk Try.prog 31 (.loop Lfield_Reader_Num_n0) annLfield_Reader_Num_n0 := annOk_at (annOk_none _ _ _)
abbrev Ifield_Reader_Num_n0 := (Int) × (List UInt8) × (Int) × (List Int)
abbrev Yfield_Reader_Num_n0 := (Int)
abbrev Vfield_Reader_Num_n0 := (Int) × (Int)
def Sfield_Reader_Num_n0 : Ifield_Reader_Num_n0 → Vfield_Reader_Num_n0 → St := fun (t19, o0_0, o0_1, o1) (t5, t20) => { env := [(5, AV.int IntKind.i64 t5), (18, AV.own 1), (19, AV.int IntKind.i64 t19), (20, AV.int IntKind.i64 t20)], stk := [[(0, AV.ptr 0 0)]], H := [AE.Obj.cells [AV.str o0_0, AV.int IntKind.i64 o0_1], Obj.arr (Ty.int IntKind.u8) o1], blk := 204800 }
def decfield_Reader_Num_n0 (s : St) : Option (Ifield_Reader_Num_n0 × Vfield_Reader_Num_n0) := match s with
  | { env := [(5, AV.int IntKind.i64 t5), (18, AV.own 1), (19, AV.int IntKind.i64 t19), (20, AV.int IntKind.i64 t20)], stk := [[(0, AV.ptr 0 0)]], H := [AE.Obj.cells [AV.str o0_0, AV.int IntKind.i64 o0_1], Obj.arr (Ty.int IntKind.u8) o1], blk := 204800 } => some ((t19, o0_0, o0_1, o1), (t5, t20))
  | _ => none
theorem decfield_Reader_Num_n0_ok (s : St) (x : Ifield_Reader_Num_n0 × Vfield_Reader_Num_n0) (h : decfield_Reader_Num_n0 s = some x) : s = Sfield_Reader_Num_n0 x.1 x.2 := by
  unfold decfield_Reader_Num_n0 at h
  split at h
  · cases h; rfl
  · cases h
def outfield_Reader_Num_n0 : Ifield_Reader_Num_n0 → (Ex → St → Ans) → Yfield_Reader_Num_n0 → Ans := fun (t19, o0_0, o0_1, o1) K => fun t5_y => K (Ex.exit 0) { env := [(5, AV.int IntKind.i64 t5_y)], stk := [[(0, AV.ptr 0 0)]], H := [AE.Obj.cells [AV.str o0_0, AV.int IntKind.i64 o0_1]], blk := 204800 }
def stepfield_Reader_Num_n0 {β : Type} : Ifield_Reader_Num_n0 → Vfield_Reader_Num_n0 → (Vfield_Reader_Num_n0 → Option β) → (Yfield_Reader_Num_n0 → Option β) → Option β := fun (t19, o0_0, o0_1, o1) (t5, t20) next exit => (bif decide (t20 < t19) then (bif inR t20 (List.length o1) then (bindO (o1[Int.toNat t20]?) fun x => (next (IntKind.wrap IntKind.i64 (↑(Int.toNat (IntKind.wrap IntKind.i64 (t5 * (256 : Int)) % (18446744073709551616 : Int)) ||| Int.toNat (IntKind.wrap IntKind.i64 x % (18446744073709551616 : Int))) : Int), IntKind.wrap IntKind.i64 (t20 + (1 : Int))))) else none) else (exit (t5)))
def stepDfield_Reader_Num_n0 (i : Ifield_Reader_Num_n0) (v : Vfield_Reader_Num_n0) : Option (Vfield_Reader_Num_n0 ⊕ Yfield_Reader_Num_n0) := stepfield_Reader_Num_n0 i v (fun v => some (.inl v)) (fun y => some (.inr y))
theorem stepfield_Reader_Num_n0_nat (i : Ifield_Reader_Num_n0) (v : Vfield_Reader_Num_n0) (next : Vfield_Reader_Num_n0 → Ans) (exit : Yfield_Reader_Num_n0 → Ans) : stepfield_Reader_Num_n0 i v next exit = bindO (stepDfield_Reader_Num_n0 i v) (Sum.elim next exit) := by
  obtain ⟨t19, o0_0, o0_1, o1⟩ := i
  obtain ⟨t5, t20⟩ := v
  simp only [stepDfield_Reader_Num_n0, stepfield_Reader_Num_n0, bindO_cond, bindO_assoc, bindO_none, bindO_pure, bindO_elim, bindO_unP, Sum.elim_inl, Sum.elim_inr]
theorem stepfield_Reader_Num_n0_ok (n : Nat) (i : Ifield_Reader_Num_n0) (v : Vfield_Reader_Num_n0) (K : Ex → St → Ans) : codeI Try.tab envfield_Reader_Num noHint (codeD Try.tab envfield_Reader_Num noHint 0 64) (n+1) 31 annLfield_Reader_Num_n0 (.loop Lfield_Reader_Num_n0) (weakP 1 (exk [5] [4] [(0, [5])]) K) (Sfield_Reader_Num_n0 i v) = stepfield_Reader_Num_n0 i v (fun v' => codeI Try.tab envfield_Reader_Num noHint (codeD Try.tab envfield_Reader_Num noHint 0 64) n 31 annLfield_Reader_Num_n0 (.loop Lfield_Reader_Num_n0) (weakP 1 (exk [5] [4] [(0, [5])]) K) (Sfield_Reader_Num_n0 i v')) (fun y => outfield_Reader_Num_n0 i K y) := by kernel_rfl
theorem GNfield_Reader_Num_n0_ok : CSum Try.prog 31 (.loop Lfield_Reader_Num_n0) (sumL decfield_Reader_Num_n0 stepDfield_Reader_Num_n0 outfield_Reader_Num_n0) := csum_loop mixed tabOk envfield_Reader_NumOk 1 (exk [5] [4] [(0, [5])]) annLfield_Reader_Num_n0_ok decfield_Reader_Num_n0_ok stepfield_Reader_Num_n0_ok stepfield_Reader_Num_n0_nat
noncomputable def Gfield_Reader_Num_n0 : (Ex → St → Ans) → St → Ans := (sumL decfield_Reader_Num_n0 stepDfield_Reader_Num_n0 outfield_Reader_Num_n0)
theorem Gfield_Reader_Num_n0_ok : CSum Try.prog 31 (.loop Lfield_Reader_Num_n0) Gfield_Reader_Num_n0 := GNfield_Reader_Num_n0_ok
noncomputable def annfield_Reader_Num : Ann := (.seq .none (.seq .none (.seq .none (.seq .none (.seq (.seq .none (.block (.cut 1 [5, 18, 19, 20] Gfield_Reader_Num_n0))) .none)))))
theorem annfield_Reader_Num_ok : AnnOk Try.prog 31 bfield_Reader_Num annfield_Reader_Num := ⟨(annOk_none _ _ _), ⟨(annOk_none _ _ _), ⟨(annOk_none _ _ _), ⟨(annOk_none _ _ _), ⟨⟨(annOk_none _ _ _), Gfield_Reader_Num_n0_ok⟩, (annOk_none _ _ _)⟩⟩⟩⟩⟩
abbrev Afield_Reader_Num := (Int) × (List UInt8) × (Int)
abbrev Yfield_Reader_Num := (Int) × (List UInt8) × (Int)
def fnfield_Reader_Num {β : Type} : Afield_Reader_Num → (Yfield_Reader_Num → Option β) → Option β := fun (a1, o0_0, o0_1) exit => (bindO (fnDfield_width (a1)) fun r => (bif !r then (bindO (fnDfield_Reader_fail ((3 : Int), o0_0, o0_1)) fun o0_1_2 => (exit ((0 : Int), o0_0, o0_1_2))) else (bindO (fnDfield_Reader_Bytes (a1, o0_0, o0_1)) (unP fun r_2 => unP fun o0_0_2 o0_1_2 => (bif Nat.ble (List.length r_2) (140737488355328 : Nat) then (bindO (loopD (stepDfield_Reader_Num_n0 ((↑(List.length (intsOf r_2)) : Int), o0_0_2, o0_1_2, intsOf r_2)) FUEL ((0 : Int), (0 : Int))) fun t5 => (exit (t5, o0_0_2, o0_1_2))) else none)))))
def fnDfield_Reader_Num (a : Afield_Reader_Num) : Option Yfield_Reader_Num := fnfield_Reader_Num a some
theorem fnfield_Reader_Num_nat (a : Afield_Reader_Num) (k : Yfield_Reader_Num → Ans) : fnfield_Reader_Num a k = bindO (fnDfield_Reader_Num a) k := by
  obtain ⟨a1, o0_0, o0_1⟩ := a
  simp only [fnDfield_Reader_Num, fnfield_Reader_Num, bindO_cond, bindO_assoc, bindO_none, bindO_pure, bindO_elim, bindO_unP]
def argsfield_Reader_Num : Afield_Reader_Num → List AV × List AE.Obj := fun (a1, o0_0, o0_1) => ([AV.ptr 0 0, AV.int IntKind.i64 a1], [AE.Obj.cells [AV.str o0_0, AV.int IntKind.i64 o0_1]])
def decAfield_Reader_Num (l : List AV) (H : List AE.Obj) : Option Afield_Reader_Num := match l, H with
  | [AV.ptr 0 0, AV.int IntKind.i64 a1], [AE.Obj.cells [AV.str o0_0, AV.int IntKind.i64 o0_1]] => some (a1, o0_0, o0_1)
  | _, _ => none
theorem decAfield_Reader_Num_ok (l : List AV) (H : List AE.Obj) (a : Afield_Reader_Num) (h : decAfield_Reader_Num l H = some a) : (l, H) = argsfield_Reader_Num a := by
  unfold decAfield_Reader_Num at h
  split at h
  · cases h; rfl
  · cases h
def outfield_Reader_Num : Afield_Reader_Num → (AV → List AE.Obj → Ans) → Yfield_Reader_Num → Ans := fun (a1, o0_0, o0_1) K => unP fun r_y => unP fun o0_0_y o0_1_y => K (AV.int IntKind.i64 r_y) [AE.Obj.cells [AV.str o0_0_y, AV.int IntKind.i64 o0_1_y]]
theorem fnfield_Reader_Num_ok (a : Afield_Reader_Num) (K : AV → List AE.Obj → Ans) : fnE Try.tab envfield_Reader_Num noHint 0 70 50 Try.f50.ntmps Try.f50.results.toList annfield_Reader_Num bfield_Reader_Num (argsfield_Reader_Num a).1 (argsfield_Reader_Num a).2 K = fnfield_Reader_Num a (outfield_Reader_Num a K) := by kernel_rfl
def vFfield_Reader_Num (a : Afield_Reader_Num) (K : AV → List AE.Obj → Ans) : Ans := bindO (fnDfield_Reader_Num a) fun y => outfield_Reader_Num a K y
def Ffield_Reader_Num : List AV → List AE.Obj → (AV → List AE.Obj → Ans) → Ans := fun l H K => bindO (decAfield_Reader_Num l H) fun a => vFfield_Reader_Num a K
theorem Ffield_Reader_Num_ok : FuncOk Try.prog 50 Ffield_Reader_Num := func_mkD (hint := noHint) (d := 0) (n := 70) mixed tabOk envfield_Reader_NumOk Try.func50 (bodySome (by kernel_rfl)) (by decide +kernel) annfield_Reader_Num_ok decAfield_Reader_Num_ok fnfield_Reader_Num_ok fnfield_Reader_Num_nat
--@ logrec_Size
noncomputable def envlogrec_Size : Env := [(48, .func Ffield_New), (49, .func Ffield_Reader_Bytes), (50, .func Ffield_Reader_Num)]
theorem envlogrec_SizeOk : EnvOk Try.prog envlogrec_Size := EnvOk.cons Ffield_New_ok (EnvOk.cons Ffield_Reader_Bytes_ok (EnvOk.cons Ffield_Reader_Num_ok (EnvOk.nil)))
noncomputable def blogrec_Size : Code := Try.f35.body.getD .skip
noncomputable def Llogrec_Size_n0 : Code := codeAt [1, 1, 1, 1, 0, 0] blogrec_Size
noncomputable def annLlogrec_Size_n0 : Ann := .none
theorem annLlogrec_Size_n0_ok : AnnOk Try.prog 38 Llogrec_Size_n0 annLlogrec_Size_n0 := (annOk_none _ _ _)
abbrev Ilogrec_Size_n0 := (Int) × (List UInt8) × (Int) × (Int)
abbrev Ylogrec_Size_n0 := (Bool)
def Slogrec_Size_n0 : Ilogrec_Size_n0 → St := fun (t1, t7, t8, t9) => { env := [(1, AV.int IntKind.i64 t1), (7, AV.str t7), (8, AV.int IntKind.i64 t8), (9, AV.int IntKind.i64 t9)], stk := [[]], H := [], blk := 143360 }
def declogrec_Size_n0 (s : St) : Option Ilogrec_Size_n0 := match s with
  | { env := [(1, AV.int IntKind.i64 t1), (7, AV.str t7), (8, AV.int IntKind.i64 t8), (9, AV.int IntKind.i64 t9)], stk := [[]], H := [], blk := 143360 } => some (t1, t7, t8, t9)
  | _ => none
theorem declogrec_Size_n0_ok (s : St) (x : Ilogrec_Size_n0) (h : declogrec_Size_n0 s = some x) : s = Slogrec_Size_n0 x := by
  unfold declogrec_Size_n0 at h
  split at h
  · cases h; rfl
  · cases h
def outlogrec_Size_n0 : Ilogrec_Size_n0 → (Ex → St → Ans) → Ylogrec_Size_n0 → Ans := fun (t1, t7, t8, t9) K => fun t35_y => K (Ex.norm) { env := [(9, AV.int IntKind.i64 t9), (35, AV.bool t35_y)], stk := [[]], H := [], blk := 143360 }
def nodelogrec_Size_n0 {β : Type} : Ilogrec_Size_n0 → (Ylogrec_Size_n0 → Option β) → Option β := fun (t1, t7, t8, t9) exit => (bif !t7 == [(82 : UInt8)] then (exit (true)) else (bif t8 != t1 then (exit (true)) else (bif decide (t9 < (1 : Int)) then (exit (true)) else (exit (decide (t9 > (16 : Int)))))))
def nodeDlogrec_Size_n0 (i : Ilogrec_Size_n0) : Option Ylogrec_Size_n0 := nodelogrec_Size_n0 i some
theorem nodelogrec_Size_n0_nat (i : Ilogrec_Size_n0) (k : Ylogrec_Size_n0 → Ans) : nodelogrec_Size_n0 i k = bindO (nodeDlogrec_Size_n0 i) k := by
  obtain ⟨t1, t7, t8, t9⟩ := i
  simp only [nodeDlogrec_Size_n0, nodelogrec_Size_n0, bindO_cond, bindO_assoc, bindO_none, bindO_pure, bindO_elim, bindO_unP]
theorem nodelogrec_Size_n0_ok (i : Ilogrec_Size_n0) (K : Ex → St → Ans) : codeI Try.tab envlogrec_Size noHint (codeD Try.tab envlogrec_Size noHint 0 64) 70 38 annLlogrec_Size_n0 Llogrec_Size_n0 (weakP 0 (exk [9, 35] [4, 5] []) K) (Slogrec_Size_n0 i) = nodelogrec_Size_n0 i (outlogrec_Size_n0 i K) := by kernel_rfl
theorem GNlogrec_Size_n0_ok : CSum Try.prog 38 Llogrec_Size_n0 (sumN declogrec_Size_n0 nodeDlogrec_Size_n0 outlogrec_Size_n0) := csum_node mixed tabOk envlogrec_SizeOk 0 (exk [9, 35] [4, 5] []) annLlogrec_Size_n0_ok declogrec_Size_n0_ok nodelogrec_Size_n0_ok nodelogrec_Size_n0_nat
noncomputable def Glogrec_Size_n0 : (Ex → St → Ans) → St → Ans := (sumN declogrec_Size_n0 nodeDlogrec_Size_n0 outlogrec_Size_n0)
theorem Glogrec_Size_n0_ok : CSum Try.prog 38 Llogrec_Size_n0 Glogrec_Size_n0 := GNlogrec_Size_n0_ok
noncomputable def annlogrec_Size : Ann := (.seq .none (.seq .none (.seq .none (.seq .none (.seq (.seq (.cut 0 [1, 7, 8, 9] Glogrec_Size_n0) .none) .none)))))
theorem annlogrec_Size_ok : AnnOk Try.prog 38 blogrec_Size annlogrec_Size := ⟨(annOk_none _ _ _), ⟨(annOk_none _ _ _), ⟨(annOk_none _ _ _), ⟨(annOk_none _ _ _), ⟨⟨Glogrec_Size_n0_ok, (annOk_none _ _ _)⟩, (annOk_none _ _ _)⟩⟩⟩⟩⟩
abbrev Alogrec_Size := (List UInt8) × (Int)
abbrev Ylogrec_Size := (Int) × (Int)
def fnlogrec_Size {β : Type} : Alogrec_Size → (Ylogrec_Size → Option β) → Option β := fun (a0, a1) exit => (bif (↑(List.length a0) : Int) != (64 : Int) then (exit ((0 : Int), (12 : Int))) else (bindO (fnDfield_New (a0)) fun _ => (bindO (fnDfield_Reader_Bytes ((1 : Int), a0, (0 : Int))) (unP fun r => unP fun o0_0 o0_1 => (bindO (fnDfield_Reader_Num ((6 : Int), o0_0, o0_1)) (unP fun r_2 => unP fun o0_0_2 o0_1_2 => (bindO (fnDfield_Reader_Num ((1 : Int), o0_0_2, o0_1_2)) (unP fun r_3 => unP fun o0_0_3 o0_1_3 => (bindO (nodeDlogrec_Size_n0 (a1, r, r_2, r_3)) fun t35 => (bif t35 then (exit ((0 : Int), (8 : Int))) else (exit (IntKind.wrap IntKind.i64 (r_3 + (1 : Int)), (0 : Int)))))))))))))
def fnDlogrec_Size (a : Alogrec_Size) : Option Ylogrec_Size := fnlogrec_Size a some
theorem fnlogrec_Size_nat (a : Alogrec_Size) (k : Ylogrec_Size → Ans) : fnlogrec_Size a k = bindO (fnDlogrec_Size a) k := by
  obtain ⟨a0, a1⟩ := a
  simp only [fnDlogrec_Size, fnlogrec_Size, bindO_cond, bindO_assoc, bindO_none, bindO_pure, bindO_elim, bindO_unP]
def argslogrec_Size : Alogrec_Size → List AV := fun (a0, a1) => [AV.str a0, AV.int IntKind.i64 a1]
def decAlogrec_Size (l : List AV) : Option Alogrec_Size := match l with
  | [AV.str a0, AV.int IntKind.i64 a1] => some (a0, a1)
  | _ => none
theorem decAlogrec_Size_ok (l : List AV) (a : Alogrec_Size) (h : decAlogrec_Size l = some a) : l = argslogrec_Size a := by
  unfold decAlogrec_Size at h
  split at h
  · cases h; rfl
  · cases h
def rendlogrec_Size : Alogrec_Size → Ylogrec_Size → AV := fun (a0, a1) => unP fun r_0_y r_1_y => AV.tup [AV.int IntKind.i64 r_0_y, AV.int IntKind.i64 r_1_y]
theorem rendlogrec_Size_ok : ∀ (a : Alogrec_Size) (y : Ylogrec_Size), (rendlogrec_Size a y).closed1 = true := by
  rintro ⟨a0, a1⟩ y <;> first | rfl | exact Empty.elim y
theorem fnlogrec_Size_ok (a : Alogrec_Size) : fnE Try.tab envlogrec_Size noHint 0 70 35 Try.f35.ntmps Try.f35.results.toList annlogrec_Size blogrec_Size (argslogrec_Size a) [] (fun v _ => some (v, [])) = fnlogrec_Size a (fun y => some (rendlogrec_Size a y, [])) := by kernel_rfl
def vFlogrec_Size (a : Alogrec_Size) (K : AV → Ans) : Ans := bindO (fnDlogrec_Size a) fun y => K (rendlogrec_Size a y)
def Flogrec_Size : List AV → (AV → Ans) → Ans := fun l K => bindO (decAlogrec_Size l) fun a => vFlogrec_Size a K
theorem Flogrec_Size_ok : PureOk Try.prog 35 Flogrec_Size := pure_mkD (hint := noHint) (d := 0) (n := 70) mixed tabOk envlogrec_SizeOk Try.func35 (bodySome (by kernel_rfl)) (by decide +kernel) annlogrec_Size_ok decAlogrec_Size_ok fnlogrec_Size_ok fnlogrec_Size_nat rendlogrec_Size_ok
end Go.Proofs.R2

/- What the functions that LogscanOrderSaid reaches compute: part 2. -/
import Derived.Test.YtkoocdpbnniamaaAe4
import Derived.Test.YtkoocdpbnniamaaProg
import Derived.Test.YtkoocdpbnniamaaChecked
import Derived.Eval
import Derived.Shelf.Strings.Builder1
import Derived.Shelf.Strings.Builder2
import Derived.Shelf.Strings.BuilderF
import Derived.Shelf.Strings.Prefix
import Derived.Shelf.Bits.Mul64
import Derived.Shelf.Strings.Repeat
set_option linter.unusedVariables false
set_option linter.unusedSimpArgs false
namespace Go.Proofs
instance Try.bt : Go.AE.BT := ⟨5, 67⟩
def Try.tab : Go.AE.Tab := [
  (1, ⟨.sc, 1, 8, [.nilf], none⟩),
  (2, ⟨.sc, 1, 8, [.int .i64 0], some (.int .i64)⟩),
  (3, ⟨.sc, 1, 8, [.int .i64 0], some (.int .i64)⟩),
  (4, ⟨.sc, 1, 1, [.bool false], some .bool⟩),
  (5, ⟨.sc, 1, 1, [.int .u8 0], some (.int .u8)⟩),
  (7, ⟨.struct [(2, 0), (3, 1), (4, 2), (6, 3)], 4, 24, [.int .i64 0, .int .i64 0, .bool false, .int .u8 0], some (.st (.pair (.int .i64) (.pair (.int .i64) (.pair .bool (.int .u8)))))⟩),
  (9, ⟨.sc, 1, 16, [.str []], some .str⟩),
  (12, ⟨.sc, 1, 8, [.int .u64 0], some (.int .u64)⟩),
  (20, ⟨.sc, 1, 16, [.nili], none⟩),
  (21, ⟨.sc, 1, 4, [.int .i32 0], some (.int .i32)⟩),
  (22, ⟨.slice 34, 1, 24, [.nils], some (.list (.list (.st (.pair (.int .i64) .str))))⟩),
  (23, ⟨.slice 36, 1, 24, [.nils], some (.list (.st (.pair (.int .i64) (.pair (.int .i64) (.pair .str (.list (.st (.pair (.int .i64) .str))))))))⟩),
  (24, ⟨.sc, 1, 8, [.nilf], none⟩),
  (25, ⟨.ptr 86, 1, 8, [.nilp], none⟩),
  (26, ⟨.ptr 79, 1, 8, [.nilp], none⟩),
  (27, ⟨.ptr 92, 1, 8, [.nilp], none⟩),
  (28, ⟨.ptr 94, 1, 8, [.nilp], none⟩),
  (30, ⟨.sc, 1, 8, [.nilf], none⟩),
  (31, ⟨.sc, 1, 8, [.nilf], none⟩),
  (32, ⟨.sc, 1, 8, [.int .i64 0], some (.int .i64)⟩),
  (33, ⟨.sc, 1, 8, [.nilf], none⟩),
  (34, ⟨.slice 52, 1, 24, [.nils], some (.list (.st (.pair (.int .i64) .str)))⟩),
  (35, ⟨.struct [(3, 0), (3, 1), (9, 2), (34, 3)], 4, 56, [.int .i64 0, .int .i64 0, .str [], .nils], some (.st (.pair (.int .i64) (.pair (.int .i64) (.pair .str (.list (.st (.pair (.int .i64) .str)))))))⟩),
  (36, ⟨.struct [(3, 0), (3, 1), (9, 2), (34, 3)], 4, 56, [.int .i64 0, .int .i64 0, .str [], .nils], some (.st (.pair (.int .i64) (.pair (.int .i64) (.pair .str (.list (.st (.pair (.int .i64) .str)))))))⟩),
  (37, ⟨.sc, 1, 8, [.nilf], none⟩),
  (39, ⟨.sc, 1, 8, [.nilf], none⟩),
  (40, ⟨.slice 44, 1, 24, [.nils], some (.list (.st (.pair (.int .i64) (.pair (.int .i64) (.list (.st (.pair (.int .i64) .str)))))))⟩),
  (42, ⟨.sc, 1, 8, [.nilf], none⟩),
  (43, ⟨.struct [(3, 0), (3, 1), (34, 2)], 3, 40, [.int .i64 0, .int .i64 0, .nils], some (.st (.pair (.int .i64) (.pair (.int .i64) (.list (.st (.pair (.int .i64) .str))))))⟩),
  (44, ⟨.struct [(3, 0), (3, 1), (34, 2)], 3, 40, [.int .i64 0, .int .i64 0, .nils], some (.st (.pair (.int .i64) (.pair (.int .i64) (.list (.st (.pair (.int .i64) .str))))))⟩),
  (45, ⟨.sc, 1, 8, [.nilf], none⟩),
  (46, ⟨.sc, 1, 8, [.nilf], none⟩),
  (47, ⟨.slice 5, 1, 24, [.nils], some (.list (.int .u8))⟩),
  (49, ⟨.sc, 1, 8, [.nilf], none⟩),
  (50, ⟨.sc, 1, 8, [.nilf], none⟩),
  (51, ⟨.struct [(3, 0), (9, 1)], 2, 24, [.int .i64 0, .str []], some (.st (.pair (.int .i64) .str))⟩),
  (52, ⟨.struct [(3, 0), (9, 1)], 2, 24, [.int .i64 0, .str []], some (.st (.pair (.int .i64) .str))⟩),
  (54, ⟨.sc, 1, 8, [.nilf], none⟩),
  (55, ⟨.sc, 1, 8, [.nilf], none⟩),
  (57, ⟨.sc, 1, 8, [.nilf], none⟩),
  (58, ⟨.sc, 1, 8, [.nilf], none⟩),
  (59, ⟨.sc, 1, 8, [.nilf], none⟩),
  (60, ⟨.sc, 1, 8, [.nilf], none⟩),
  (61, ⟨.sc, 1, 8, [.nilf], none⟩),
  (62, ⟨.sc, 1, 8, [.nilf], none⟩),
  (63, ⟨.sc, 1, 8, [.nilf], none⟩),
  (64, ⟨.sc, 1, 8, [.nilf], none⟩),
  (65, ⟨.ptr 67, 1, 8, [.nilp], none⟩),
  (66, ⟨.struct [(65, 0), (47, 1)], 2, 32, [.nilp, .nils], none⟩),
  (67, ⟨.struct [(65, 0), (47, 1)], 2, 32, [.nilp, .nils], none⟩),
  (68, ⟨.sc, 1, 16, [.nili], none⟩),
  (69, ⟨.sc, 1, 16, [.nili], none⟩),
  (71, ⟨.sc, 1, 8, [.nilf], none⟩),
  (72, ⟨.sc, 1, 8, [.nilf], none⟩),
  (73, ⟨.sc, 1, 8, [.nilf], none⟩),
  (74, ⟨.sc, 1, 8, [.nilf], none⟩),
  (75, ⟨.sc, 1, 8, [.nilf], none⟩),
  (76, ⟨.sc, 1, 8, [.nilf], none⟩),
  (77, ⟨.sc, 1, 8, [.nilf], none⟩),
  (78, ⟨.struct [(25, 0), (3, 1), (3, 2)], 3, 24, [.nilp, .int .i64 0, .int .i64 0], none⟩),
  (79, ⟨.struct [(25, 0), (3, 1), (3, 2)], 3, 24, [.nilp, .int .i64 0, .int .i64 0], none⟩),
  (80, ⟨.slice 9, 1, 24, [.nils], some (.list .str)⟩),
  (81, ⟨.sc, 1, 8, [.nilf], none⟩),
  (82, ⟨.sc, 1, 8, [.nilf], none⟩),
  (83, ⟨.map 3 9, 1, 8, [.nilm], none⟩),
  (84, ⟨.slice 3, 1, 24, [.nils], some (.list (.int .i64))⟩),
  (85, ⟨.struct [(80, 0), (83, 1), (34, 2), (3, 3), (84, 4), (3, 5), (4, 6)], 7, 104, [.nils, .nilm, .nils, .int .i64 0, .nils, .int .i64 0, .bool false], none⟩),
  (86, ⟨.struct [(80, 0), (83, 1), (34, 2), (3, 3), (84, 4), (3, 5), (4, 6)], 7, 104, [.nils, .nilm, .nils, .int .i64 0, .nils, .int .i64 0, .bool false], none⟩),
  (87, ⟨.ptr 89, 1, 8, [.nilp], none⟩),
  (88, ⟨.struct [(26, 0), (3, 1), (3, 2), (3, 3), (76, 4), (4, 5)], 6, 48, [.nilp, .int .i64 0, .int .i64 0, .int .i64 0, .nilf, .bool false], none⟩),
  (89, ⟨.struct [(26, 0), (3, 1), (3, 2), (3, 3), (76, 4), (4, 5)], 6, 48, [.nilp, .int .i64 0, .int .i64 0, .int .i64 0, .nilf, .bool false], none⟩),
  (90, ⟨.sc, 1, 8, [.nilf], none⟩),
  (91, ⟨.struct [(80, 0), (80, 1), (34, 2), (3, 3), (84, 4), (3, 5), (4, 6)], 7, 120, [.nils, .nils, .nils, .int .i64 0, .nils, .int .i64 0, .bool false], some (.st (.pair (.list .str) (.pair (.list .str) (.pair (.list (.st (.pair (.int .i64) .str))) (.pair (.int .i64) (.pair (.list (.int .i64)) (.pair (.int .i64) .bool)))))))⟩),
  (92, ⟨.struct [(80, 0), (80, 1), (34, 2), (3, 3), (84, 4), (3, 5), (4, 6)], 7, 120, [.nils, .nils, .nils, .int .i64 0, .nils, .int .i64 0, .bool false], some (.st (.pair (.list .str) (.pair (.list .str) (.pair (.list (.st (.pair (.int .i64) .str))) (.pair (.int .i64) (.pair (.list (.int .i64)) (.pair (.int .i64) .bool)))))))⟩),
  (93, ⟨.struct [(27, 0), (3, 1), (3, 2)], 3, 24, [.nilp, .int .i64 0, .int .i64 0], none⟩),
  (94, ⟨.struct [(27, 0), (3, 1), (3, 2)], 3, 24, [.nilp, .int .i64 0, .int .i64 0], none⟩),
  (96, ⟨.sc, 1, 8, [.nilf], none⟩),
  (98, ⟨.sc, 1, 8, [.nilf], none⟩),
  (99, ⟨.sc, 1, 8, [.nilf], none⟩),
  (100, ⟨.sc, 1, 8, [.nilf], none⟩),
  (101, ⟨.sc, 1, 8, [.nilf], none⟩),
  (102, ⟨.ptr 5, 1, 8, [.nilp], none⟩),
  (103, ⟨.sc, 1, 8, [.int .u64 0], some (.int .u64)⟩),
  (105, ⟨.sc, 1, 8, [.nilf], none⟩),
  (106, ⟨.sc, 1, 8, [.nilf], none⟩),
  (107, ⟨.sc, 1, 8, [.nilf], none⟩),
  (109, ⟨.sc, 1, 8, [.nilf], none⟩),
  (110, ⟨.sc, 1, 8, [.nilf], none⟩),
  (111, ⟨.sc, 1, 8, [.nilf], none⟩),
  (113, ⟨.sc, 1, 8, [.nilf], none⟩),
  (114, ⟨.sc, 1, 8, [.nilf], none⟩),
  (115, ⟨.array 4 5, 4, 4, [.int .u8 0, .int .u8 0, .int .u8 0, .int .u8 0], some (.st (.pair (.int .u8) (.pair (.int .u8) (.pair (.int .u8) (.int .u8)))))⟩),
  (116, ⟨.sc, 1, 4, [.int .u32 0], some (.int .u32)⟩),
  (118, ⟨.sc, 1, 8, [.nilf], none⟩),
  (119, ⟨.sc, 1, 8, [.int .u64 0], some (.int .u64)⟩),
  (121, ⟨.sc, 1, 8, [.nilf], none⟩),
  (122, ⟨.sc, 1, 8, [.nilf], none⟩),
  (123, ⟨.sc, 1, 8, [.nilf], none⟩),
  (125, ⟨.sc, 1, 8, [.nilf], none⟩),
  (126, ⟨.sc, 1, 8, [.nilf], none⟩),
  (127, ⟨.ptr 137, 1, 8, [.nilp], none⟩),
  (128, ⟨.sc, 1, 8, [.nilf], none⟩),
  (129, ⟨.sc, 1, 8, [.nilf], none⟩),
  (130, ⟨.sc, 1, 8, [.nilf], none⟩),
  (131, ⟨.ptr 141, 1, 8, [.nilp], none⟩),
  (132, ⟨.sc, 1, 8, [.nilf], none⟩),
  (133, ⟨.sc, 1, 8, [.nilf], none⟩),
  (134, ⟨.sc, 1, 8, [.nilf], none⟩),
  (135, ⟨.sc, 1, 8, [.nilf], none⟩),
  (136, ⟨.struct [(116, 0)], 1, 4, [.int .u32 0], some (.st (.int .u32))⟩),
  (137, ⟨.struct [(116, 0)], 1, 4, [.int .u32 0], some (.st (.int .u32))⟩),
  (138, ⟨.sc, 1, 8, [.nilf], none⟩),
  (139, ⟨.sc, 1, 8, [.nilf], none⟩),
  (140, ⟨.struct [(9, 0), (32, 1)], 2, 24, [.str [], .int .i64 0], some (.st (.pair .str (.int .i64)))⟩),
  (141, ⟨.struct [(9, 0), (32, 1)], 2, 24, [.str [], .int .i64 0], some (.st (.pair .str (.int .i64)))⟩),
  (142, ⟨.sc, 1, 8, [.nilf], none⟩),
  (151, ⟨.sc, 1, 8, [.nilf], none⟩)]
end Go.Proofs
namespace Go.Proofs.R4
open Go Go.AE
theorem tabOk : TabOk Try.prog Try.tab := tabOk_of_check (by kernel_rfl)
theorem mixed : Try.prog.follows .mixedOrders = true := Checked.mixed Try.checked
end Go.Proofs.R4
namespace Go.Proofs
open Go.Shelf
def Try.lays212_ren : Go.Shelf.Ren := ⟨fun | 212 => 44 | 263 => 55 | 264 => 56 | n => n, fun | 46 => 103 | 51 => 116 | 146 => 117 | 53 => 119 | 148 => 120 | n => n, fun | n => n⟩
theorem Try.lays212 : Go.Proofs.Lays.n212 Try.prog Try.lays212_ren := {
  mixed := by kernel_rfl
  f212 := Try.func44.trans (congrArg some (by kernel_rfl))
  f263 := Try.func55.trans (congrArg some (by kernel_rfl))
  f264 := Try.func56.trans (congrArg some (by kernel_rfl))
  t46 := Try.underlying103
  a46 := Try.isAgg103
  z46 := Try.sizeOf103
  v46 := Try.zeroValue103
  t51 := Try.underlying116
  a51 := Try.isAgg116
  z51 := Try.sizeOf116
  v51 := Try.zeroValue116
  t53 := Try.underlying119
  a53 := Try.isAgg119
  z53 := Try.sizeOf119
  v53 := Try.zeroValue119
  t146 := Try.underlying117
  a146 := Try.isAgg117
  z146 := Try.sizeOf117
  v146 := Try.zeroValue117
  t148 := Try.underlying120
  a148 := Try.isAgg120
  z148 := Try.sizeOf120
  v148 := Try.zeroValue120 }
open Go.RowKit Go.Lib in

theorem Try.bits_Mul (x y : Nat) (hx : x < 18446744073709551616) (hy : y < 18446744073709551616) (w : World) :
    Calls Try.prog 44 #[.int .u64 x, .int .u64 y] w fun e w' => e = .returned (.tuple #[.int .u64 ((x * y / 18446744073709551616 : Nat) : Int), .int .u64 ((x * y % 18446744073709551616 : Nat) : Int)]) ∧ w' = w := Any.bits_Mul Try.lays212 x y hx hy w
def Try.lays105_ren : Go.Shelf.Ren := ⟨fun | 105 => 33 | 212 => 44 | 99 => 45 | 165 => 46 | 166 => 24 | 170 => 47 | 169 => 27 | 263 => 55 | 264 => 56 | 206 => 57 | 240 => 42 | 241 => 58 | 276 => 53 | 277 => 66 | n => n, fun | 9 => 9 | 3 => 3 | 4 => 4 | 20 => 20 | 0 => 0 | 46 => 103 | 109 => 104 | 5 => 5 | 72 => 67 | 76 => 70 | 51 => 116 | 146 => 117 | 53 => 119 | 148 => 120 | 70 => 65 | 37 => 47 | 75 => 69 | 127 => 102 | 164 => 112 | 80 => 74 | n => n, fun | n => n⟩
theorem Try.lays105 : Go.Proofs.Lays.n105 Try.prog Try.lays105_ren := {
  mixed := by kernel_rfl
  f99 := Try.func45.trans (congrArg some (by kernel_rfl))
  f105 := Try.func33.trans (congrArg some (by kernel_rfl))
  f165 := Try.func46.trans (congrArg some (by kernel_rfl))
  f166 := Try.func24.trans (congrArg some (by kernel_rfl))
  f169 := Try.func27.trans (congrArg some (by kernel_rfl))
  f170 := Try.func47.trans (congrArg some (by kernel_rfl))
  f206 := Try.func57.trans (congrArg some (by kernel_rfl))
  f212 := Try.func44.trans (congrArg some (by kernel_rfl))
  f240 := Try.func42.trans (congrArg some (by kernel_rfl))
  f241 := Try.func58.trans (congrArg some (by kernel_rfl))
  f263 := Try.func55.trans (congrArg some (by kernel_rfl))
  f264 := Try.func56.trans (congrArg some (by kernel_rfl))
  f276 := Try.func53.trans (congrArg some (by kernel_rfl))
  f277 := Try.func66.trans (congrArg some (by kernel_rfl))
  t0 := Try.underlying0
  a0 := Try.isAgg0
  z0 := Try.sizeOf0
  v0 := Try.zeroValue0
  t3 := Try.underlying3
  a3 := Try.isAgg3
  z3 := Try.sizeOf3
  v3 := Try.zeroValue3
  t4 := Try.underlying4
  a4 := Try.isAgg4
  z4 := Try.sizeOf4
  v4 := Try.zeroValue4
  t5 := Try.underlying5
  a5 := Try.isAgg5
  z5 := Try.sizeOf5
  v5 := Try.zeroValue5
  t9 := Try.underlying9
  a9 := Try.isAgg9
  z9 := Try.sizeOf9
  v9 := Try.zeroValue9
  t20 := Try.underlying20
  a20 := Try.isAgg20
  z20 := Try.sizeOf20
  v20 := Try.zeroValue20
  t37 := Try.underlying47
  a37 := Try.isAgg47
  z37 := Try.sizeOf47
  v37 := Try.zeroValue47
  t46 := Try.underlying103
  a46 := Try.isAgg103
  z46 := Try.sizeOf103
  v46 := Try.zeroValue103
  t51 := Try.underlying116
  a51 := Try.isAgg116
  z51 := Try.sizeOf116
  v51 := Try.zeroValue116
  t53 := Try.underlying119
  a53 := Try.isAgg119
  z53 := Try.sizeOf119
  v53 := Try.zeroValue119
  t70 := Try.underlying65
  a70 := Try.isAgg65
  z70 := Try.sizeOf65
  v70 := Try.zeroValue65
  t72 := Try.underlying67
  a72 := Try.isAgg67
  z72 := Try.sizeOf67
  v72 := Try.zeroValue67
  t75 := Try.underlying69
  a75 := Try.isAgg69
  z75 := Try.sizeOf69
  v75 := Try.zeroValue69
  t76 := Try.underlying70
  a76 := Try.isAgg70
  z76 := Try.sizeOf70
  v76 := Try.zeroValue70
  t109 := Try.underlying104
  a109 := Try.isAgg104
  z109 := Try.sizeOf104
  v109 := Try.zeroValue104
  t127 := Try.underlying102
  a127 := Try.isAgg102
  z127 := Try.sizeOf102
  v127 := Try.zeroValue102
  t146 := Try.underlying117
  a146 := Try.isAgg117
  z146 := Try.sizeOf117
  v146 := Try.zeroValue117
  t148 := Try.underlying120
  a148 := Try.isAgg120
  z148 := Try.sizeOf120
  v148 := Try.zeroValue120
  t164 := Try.underlying112
  a164 := Try.isAgg112
  z164 := Try.sizeOf112
  v164 := Try.zeroValue112 }
theorem Try.Builder_Extra_105 : Builder.Extra Try.prog Try.lays105_ren := {
  sizeBuilder := by kernel_rfl
  liesBuilder := by kernel_rfl
  t5 := Try.underlying5
  a5 := Try.isAgg5
  z5 := Try.sizeOf5
  v5 := Try.zeroValue5
  infoByte := by kernel_rfl
  cellsByte := by kernel_rfl
  sizeByte := by kernel_rfl
  neB5 := by decide }
open Go.RowKit Go.Lib in

theorem Try.strings_Repeat (s : ByteArray) (c : Nat) (w : World) (hc : c ≤ 9223372036854775807) (hlen : s.size * c ≤ 140737488355328) :
    Calls Try.prog 33 #[.string s, .int .i64 c] w fun e w' => e = .returned (.string ⟨(Lib.repeatL s.data.toList c).toArray⟩) ∧ Below w.heap.size w w' := Any.strings_Repeat Try.lays105 Try.Builder_Extra_105 s c w hc hlen
end Go.Proofs
namespace Go.Proofs.R4
open Go Go.AE
theorem Fstrings_Repeat_ok : PureOk Try.prog 33 Fstrings_Repeat :=
  Fstrings_Repeat_of (entered_of Try.func33 (by kernel_rfl) (by decide +kernel)) fun s c w h1 h2 => Try.strings_Repeat s c w h1 h2
theorem FBuilder_copyCheck_ok : FuncOk Try.prog 42 FBuilder_copyCheck :=
  FBuilder_copyCheck_of (ρ := Try.lays105_ren) { Try.lays105 with } Try.Builder_Extra_105.toX72 rfl (entered_of Try.func42 (by kernel_rfl) (by decide +kernel))
theorem FBuilder_String_ok : FuncOk Try.prog 27 FBuilder_String :=
  FBuilder_String_of (ρ := Try.lays105_ren) { Try.lays105 with } Try.Builder_Extra_105 rfl (entered_of Try.func27 (by kernel_rfl) (by decide +kernel))
theorem FBuilder_StringAgain_ok : FuncOk Try.prog 27 FBuilder_StringAgain :=
  FBuilder_StringAgain_of (ρ := Try.lays105_ren) { Try.lays105 with } Try.Builder_Extra_105 rfl (entered_of Try.func27 (by kernel_rfl) (by decide +kernel))
end Go.Proofs.R4
namespace Go.Proofs.R4
open Go Go.AE
--@ math_bits_Mul64
noncomputable def envmath_bits_Mul64 : Env := []
theorem envmath_bits_Mul64Ok : EnvOk Try.prog envmath_bits_Mul64 := EnvOk.nil
noncomputable def bmath_bits_Mul64 : Code := Try.f56.body.getD .skip
noncomputable def annmath_bits_Mul64 : Ann := .none
theorem annmath_bits_Mul64_ok : AnnOk Try.prog 51 bmath_bits_Mul64 annmath_bits_Mul64 := (annOk_none _ _ _)
abbrev Amath_bits_Mul64 := (Int) × (Int)
abbrev Ymath_bits_Mul64 := (Int) × (Int)
def fnmath_bits_Mul64 {β : Type} : Amath_bits_Mul64 → (Ymath_bits_Mul64 → Option β) → Option β := fun (a0, a1) exit => (exit (IntKind.wrap IntKind.u64 (IntKind.wrap IntKind.u64 (IntKind.wrap IntKind.u64 (Int.fdiv a0 (4294967296 : Int) * Int.fdiv a1 (4294967296 : Int)) + Int.fdiv (IntKind.wrap IntKind.u64 (IntKind.wrap IntKind.u64 (Int.fdiv a0 (4294967296 : Int) * IntKind.wrap IntKind.u64 (↑(Int.toNat (a1 % (18446744073709551616 : Int)) &&& (4294967295 : Nat)) : Int)) + Int.fdiv (IntKind.wrap IntKind.u64 (IntKind.wrap IntKind.u64 (↑(Int.toNat (a0 % (18446744073709551616 : Int)) &&& (4294967295 : Nat)) : Int) * IntKind.wrap IntKind.u64 (↑(Int.toNat (a1 % (18446744073709551616 : Int)) &&& (4294967295 : Nat)) : Int))) (4294967296 : Int))) (4294967296 : Int)) + Int.fdiv (IntKind.wrap IntKind.u64 (IntKind.wrap IntKind.u64 (↑(Int.toNat (IntKind.wrap IntKind.u64 (IntKind.wrap IntKind.u64 (Int.fdiv a0 (4294967296 : Int) * IntKind.wrap IntKind.u64 (↑(Int.toNat (a1 % (18446744073709551616 : Int)) &&& (4294967295 : Nat)) : Int)) + Int.fdiv (IntKind.wrap IntKind.u64 (IntKind.wrap IntKind.u64 (↑(Int.toNat (a0 % (18446744073709551616 : Int)) &&& (4294967295 : Nat)) : Int) * IntKind.wrap IntKind.u64 (↑(Int.toNat (a1 % (18446744073709551616 : Int)) &&& (4294967295 : Nat)) : Int))) (4294967296 : Int)) % (18446744073709551616 : Int)) &&& (4294967295 : Nat)) : Int) + IntKind.wrap IntKind.u64 (IntKind.wrap IntKind.u64 (↑(Int.toNat (a0 % (18446744073709551616 : Int)) &&& (4294967295 : Nat)) : Int) * Int.fdiv a1 (4294967296 : Int)))) (4294967296 : Int)), IntKind.wrap IntKind.u64 (a0 * a1)))
def fnDmath_bits_Mul64 (a : Amath_bits_Mul64) : Option Ymath_bits_Mul64 := fnmath_bits_Mul64 a some
theorem fnmath_bits_Mul64_nat (a : Amath_bits_Mul64) (k : Ymath_bits_Mul64 → Ans) : fnmath_bits_Mul64 a k = bindO (fnDmath_bits_Mul64 a) k := by
  obtain ⟨a0, a1⟩ := a
  simp only [fnDmath_bits_Mul64, fnmath_bits_Mul64, bindO_cond, bindO_assoc, bindO_none, bindO_pure, bindO_elim, bindO_unP]
def argsmath_bits_Mul64 : Amath_bits_Mul64 → List AV := fun (a0, a1) => [AV.int IntKind.u64 a0, AV.int IntKind.u64 a1]
def decAmath_bits_Mul64 (l : List AV) : Option Amath_bits_Mul64 := match l with
  | [AV.int IntKind.u64 a0, AV.int IntKind.u64 a1] => some (a0, a1)
  | _ => none
theorem decAmath_bits_Mul64_ok (l : List AV) (a : Amath_bits_Mul64) (h : decAmath_bits_Mul64 l = some a) : l = argsmath_bits_Mul64 a := by
  unfold decAmath_bits_Mul64 at h
  split at h
  · cases h; rfl
  · cases h
def rendmath_bits_Mul64 : Amath_bits_Mul64 → Ymath_bits_Mul64 → AV := fun (a0, a1) => unP fun r_0_y r_1_y => AV.tup [AV.int IntKind.u64 r_0_y, AV.int IntKind.u64 r_1_y]
theorem rendmath_bits_Mul64_ok : ∀ (a : Amath_bits_Mul64) (y : Ymath_bits_Mul64), (rendmath_bits_Mul64 a y).closed1 = true := by
  rintro ⟨a0, a1⟩ y <;> first | rfl | exact Empty.elim y
theorem fnmath_bits_Mul64_ok (a : Amath_bits_Mul64) : fnE Try.tab envmath_bits_Mul64 noHint 0 70 56 Try.f56.ntmps Try.f56.results.toList annmath_bits_Mul64 bmath_bits_Mul64 (argsmath_bits_Mul64 a) [] (fun v _ => some (v, [])) = fnmath_bits_Mul64 a (fun y => some (rendmath_bits_Mul64 a y, [])) := by kernel_rfl
def vFmath_bits_Mul64 (a : Amath_bits_Mul64) (K : AV → Ans) : Ans := bindO (fnDmath_bits_Mul64 a) fun y => K (rendmath_bits_Mul64 a y)
def Fmath_bits_Mul64 : List AV → (AV → Ans) → Ans := fun l K => bindO (decAmath_bits_Mul64 l) fun a => vFmath_bits_Mul64 a K
theorem Fmath_bits_Mul64_ok : PureOk Try.prog 56 Fmath_bits_Mul64 := pure_mkD (hint := noHint) (d := 0) (n := 70) mixed tabOk envmath_bits_Mul64Ok Try.func56 (bodySome (by kernel_rfl)) (by decide +kernel) annmath_bits_Mul64_ok decAmath_bits_Mul64_ok fnmath_bits_Mul64_ok fnmath_bits_Mul64_nat rendmath_bits_Mul64_ok
--@ math_bits_Mul
noncomputable def envmath_bits_Mul : Env := [(56, .pure Fmath_bits_Mul64)]
theorem envmath_bits_MulOk : EnvOk Try.prog envmath_bits_Mul := EnvOk.cons Fmath_bits_Mul64_ok (EnvOk.nil)
noncomputable def bmath_bits_Mul : Code := Try.f44.body.getD .skip
noncomputable def annmath_bits_Mul : Ann := .none
theorem annmath_bits_Mul_ok : AnnOk Try.prog 30 bmath_bits_Mul annmath_bits_Mul := (annOk_none _ _ _)
abbrev Amath_bits_Mul := (Int) × (Int)
abbrev Ymath_bits_Mul := (Int) × (Int)
def fnmath_bits_Mul {β : Type} : Amath_bits_Mul → (Ymath_bits_Mul → Option β) → Option β := fun (a0, a1) exit => (bindO (fnDmath_bits_Mul64 (a0, a1)) (unP fun r_0 r_1 => (exit (r_0, r_1))))
def fnDmath_bits_Mul (a : Amath_bits_Mul) : Option Ymath_bits_Mul := fnmath_bits_Mul a some
theorem fnmath_bits_Mul_nat (a : Amath_bits_Mul) (k : Ymath_bits_Mul → Ans) : fnmath_bits_Mul a k = bindO (fnDmath_bits_Mul a) k := by
  obtain ⟨a0, a1⟩ := a
  simp only [fnDmath_bits_Mul, fnmath_bits_Mul, bindO_cond, bindO_assoc, bindO_none, bindO_pure, bindO_elim, bindO_unP]
def argsmath_bits_Mul : Amath_bits_Mul → List AV := fun (a0, a1) => [AV.int IntKind.u64 a0, AV.int IntKind.u64 a1]
def decAmath_bits_Mul (l : List AV) : Option Amath_bits_Mul := match l with
  | [AV.int IntKind.u64 a0, AV.int IntKind.u64 a1] => some (a0, a1)
  | _ => none
theorem decAmath_bits_Mul_ok (l : List AV) (a : Amath_bits_Mul) (h : decAmath_bits_Mul l = some a) : l = argsmath_bits_Mul a := by
  unfold decAmath_bits_Mul at h
  split at h
  · cases h; rfl
  · cases h
def rendmath_bits_Mul : Amath_bits_Mul → Ymath_bits_Mul → AV := fun (a0, a1) => unP fun r_0_y r_1_y => AV.tup [AV.int IntKind.u64 r_0_y, AV.int IntKind.u64 r_1_y]
theorem rendmath_bits_Mul_ok : ∀ (a : Amath_bits_Mul) (y : Ymath_bits_Mul), (rendmath_bits_Mul a y).closed1 = true := by
  rintro ⟨a0, a1⟩ y <;> first | rfl | exact Empty.elim y
theorem fnmath_bits_Mul_ok (a : Amath_bits_Mul) : fnE Try.tab envmath_bits_Mul noHint 0 70 44 Try.f44.ntmps Try.f44.results.toList annmath_bits_Mul bmath_bits_Mul (argsmath_bits_Mul a) [] (fun v _ => some (v, [])) = fnmath_bits_Mul a (fun y => some (rendmath_bits_Mul a y, [])) := by kernel_rfl
def vFmath_bits_Mul (a : Amath_bits_Mul) (K : AV → Ans) : Ans := bindO (fnDmath_bits_Mul a) fun y => K (rendmath_bits_Mul a y)
def Fmath_bits_Mul : List AV → (AV → Ans) → Ans := fun l K => bindO (decAmath_bits_Mul l) fun a => vFmath_bits_Mul a K
theorem Fmath_bits_Mul_ok : PureOk Try.prog 44 Fmath_bits_Mul := pure_mkD (hint := noHint) (d := 0) (n := 70) mixed tabOk envmath_bits_MulOk Try.func44 (bodySome (by kernel_rfl)) (by decide +kernel) annmath_bits_Mul_ok decAmath_bits_Mul_ok fnmath_bits_Mul_ok fnmath_bits_Mul_nat rendmath_bits_Mul_ok
--@ slices_Repeat_string_string
noncomputable def envslices_Repeat_string_string : Env := [(44, .pure Fmath_bits_Mul)]
theorem envslices_Repeat_string_stringOk : EnvOk Try.prog envslices_Repeat_string_string := EnvOk.cons Fmath_bits_Mul_ok (EnvOk.nil)
noncomputable def bslices_Repeat_string_string : Code := Try.f32.body.getD .skip
noncomputable def Lslices_Repeat_string_string_n3 : Code := codeAt [1, 1, 1, 1, 1, 1, 0, 0, 0] bslices_Repeat_string_string
noncomputable def annLslices_Repeat_string_string_n3 : Ann := .at 0 [7, 8] (.loop .none)
theorem annLslices_Repeat_string_string_n3_ok : AnnOk Try.prog 48 (.loop Lslices_Repeat_string_string_n3) annLslices_Repeat_string_string_n3 := annOk_at (annOk_none _ _ _)
abbrev Islices_Repeat_string_string_n3 := Unit
abbrev Yslices_Repeat_string_string_n3 := (List (List UInt8))
abbrev Vslices_Repeat_string_string_n3 := (Int) × (List (List UInt8))
def Sslices_Repeat_string_string_n3 : Islices_Repeat_string_string_n3 → Vslices_Repeat_string_string_n3 → St := fun _ (t8, o0) => { env := [(7, AV.own 0), (8, AV.int IntKind.i64 t8)], stk := [[]], H := [Obj.arr Ty.str o0], blk := 131072 }
def decslices_Repeat_string_string_n3 (s : St) : Option (Islices_Repeat_string_string_n3 × Vslices_Repeat_string_string_n3) := match s with
  | { env := [(7, AV.own 0), (8, AV.int IntKind.i64 t8)], stk := [[]], H := [Obj.arr Ty.str o0], blk := 131072 } => some ((), (t8, o0))
  | _ => none
theorem decslices_Repeat_string_string_n3_ok (s : St) (x : Islices_Repeat_string_string_n3 × Vslices_Repeat_string_string_n3) (h : decslices_Repeat_string_string_n3 s = some x) : s = Sslices_Repeat_string_string_n3 x.1 x.2 := by
  unfold decslices_Repeat_string_string_n3 at h
  split at h
  · cases h; rfl
  · cases h
def outslices_Repeat_string_string_n3 : Islices_Repeat_string_string_n3 → (Ex → St → Ans) → Yslices_Repeat_string_string_n3 → Ans := fun _ K => fun o0_y => K (Ex.exit 0) { env := [(7, AV.own 0)], stk := [[]], H := [Obj.arr Ty.str o0_y], blk := 131072 }
def stepslices_Repeat_string_string_n3 {β : Type} : Islices_Repeat_string_string_n3 → Vslices_Repeat_string_string_n3 → (Vslices_Repeat_string_string_n3 → Option β) → (Yslices_Repeat_string_string_n3 → Option β) → Option β := fun _ (t8, o0) next exit => (bif decide (t8 < (↑(List.length o0) : Int)) then (bif inR t8 (List.length o0 + (1 : Nat)) then (bif inR t8 (List.length o0 + (1 : Nat)) then (bif Nat.ble ((0 : Nat) + (Int.toNat t8 - (0 : Nat))) (List.length o0) then (bif Nat.ble (Int.toNat t8 + (List.length o0 - Int.toNat t8)) (List.length o0) then (next (IntKind.wrap IntKind.i64 (t8 + (↑(Nat.min (List.length (List.take (Int.toNat t8 - (0 : Nat)) (List.drop (0 : Nat) o0))) (List.length o0 - Int.toNat t8)) : Int)), List.take (Int.toNat t8) o0 ++ (List.take (List.length o0 - Int.toNat t8) (List.take (Int.toNat t8 - (0 : Nat)) (List.drop (0 : Nat) o0)) ++ List.drop (Int.toNat t8 + Nat.min (List.length (List.take (Int.toNat t8 - (0 : Nat)) (List.drop (0 : Nat) o0))) (List.length o0 - Int.toNat t8)) o0))) else none) else none) else none) else none) else (exit (o0)))
def stepDslices_Repeat_string_string_n3 (i : Islices_Repeat_string_string_n3) (v : Vslices_Repeat_string_string_n3) : Option (Vslices_Repeat_string_string_n3 ⊕ Yslices_Repeat_string_string_n3) := stepslices_Repeat_string_string_n3 i v (fun v => some (.inl v)) (fun y => some (.inr y))
theorem stepslices_Repeat_string_string_n3_nat (i : Islices_Repeat_string_string_n3) (v : Vslices_Repeat_string_string_n3) (next : Vslices_Repeat_string_string_n3 → Ans) (exit : Yslices_Repeat_string_string_n3 → Ans) : stepslices_Repeat_string_string_n3 i v next exit = bindO (stepDslices_Repeat_string_string_n3 i v) (Sum.elim next exit) := by
  obtain z := i
  obtain ⟨t8, o0⟩ := v
  simp only [stepDslices_Repeat_string_string_n3, stepslices_Repeat_string_string_n3, bindO_cond, bindO_assoc, bindO_none, bindO_pure, bindO_elim, bindO_unP, Sum.elim_inl, Sum.elim_inr]
theorem stepslices_Repeat_string_string_n3_ok (n : Nat) (i : Islices_Repeat_string_string_n3) (v : Vslices_Repeat_string_string_n3) (K : Ex → St → Ans) : codeI Try.tab envslices_Repeat_string_string noHint (codeD Try.tab envslices_Repeat_string_string noHint 0 64) (n+1) 48 annLslices_Repeat_string_string_n3 (.loop Lslices_Repeat_string_string_n3) (weakP 0 (exk [7] [4] [(0, [7])]) K) (Sslices_Repeat_string_string_n3 i v) = stepslices_Repeat_string_string_n3 i v (fun v' => codeI Try.tab envslices_Repeat_string_string noHint (codeD Try.tab envslices_Repeat_string_string noHint 0 64) n 48 annLslices_Repeat_string_string_n3 (.loop Lslices_Repeat_string_string_n3) (weakP 0 (exk [7] [4] [(0, [7])]) K) (Sslices_Repeat_string_string_n3 i v')) (fun y => outslices_Repeat_string_string_n3 i K y) := by kernel_rfl
theorem GNslices_Repeat_string_string_n3_ok : CSum Try.prog 48 (.loop Lslices_Repeat_string_string_n3) (sumL decslices_Repeat_string_string_n3 stepDslices_Repeat_string_string_n3 outslices_Repeat_string_string_n3) := csum_loop mixed tabOk envslices_Repeat_string_stringOk 0 (exk [7] [4] [(0, [7])]) annLslices_Repeat_string_string_n3_ok decslices_Repeat_string_string_n3_ok stepslices_Repeat_string_string_n3_ok stepslices_Repeat_string_string_n3_nat
noncomputable def Gslices_Repeat_string_string_n3 : (Ex → St → Ans) → St → Ans := (sumL decslices_Repeat_string_string_n3 stepDslices_Repeat_string_string_n3 outslices_Repeat_string_string_n3)
theorem Gslices_Repeat_string_string_n3_ok : CSum Try.prog 48 (.loop Lslices_Repeat_string_string_n3) Gslices_Repeat_string_string_n3 := GNslices_Repeat_string_string_n3_ok
noncomputable def Lslices_Repeat_string_string_n2 : Code := codeAt [1, 1, 1, 0, 1] bslices_Repeat_string_string
noncomputable def annLslices_Repeat_string_string_n2 : Ann := .none
theorem annLslices_Repeat_string_string_n2_ok : AnnOk Try.prog 48 Lslices_Repeat_string_string_n2 annLslices_Repeat_string_string_n2 := (annOk_none _ _ _)
abbrev Islices_Repeat_string_string_n2 := (List (List UInt8)) × (Int) × (Bool)
abbrev Yslices_Repeat_string_string_n2 := Unit
def Sslices_Repeat_string_string_n2 : Islices_Repeat_string_string_n2 → St := fun (t0, t6, t26) => { env := [(0, AV.ro Ty.str t0), (6, AV.int IntKind.u64 t6), (26, AV.bool t26)], stk := [[]], H := [], blk := 131072 }
def decslices_Repeat_string_string_n2 (s : St) : Option Islices_Repeat_string_string_n2 := match s with
  | { env := [(0, AV.ro Ty.str t0), (6, AV.int IntKind.u64 t6), (26, AV.bool t26)], stk := [[]], H := [], blk := 131072 } => some (t0, t6, t26)
  | _ => none
theorem decslices_Repeat_string_string_n2_ok (s : St) (x : Islices_Repeat_string_string_n2) (h : decslices_Repeat_string_string_n2 s = some x) : s = Sslices_Repeat_string_string_n2 x := by
  unfold decslices_Repeat_string_string_n2 at h
  split at h
  · cases h; rfl
  · cases h
def outslices_Repeat_string_string_n2 : Islices_Repeat_string_string_n2 → (Ex → St → Ans) → Yslices_Repeat_string_string_n2 → Ans := fun (t0, t6, t26) K => fun _ => K (Ex.norm) { env := [(0, AV.ro Ty.str t0), (6, AV.int IntKind.u64 t6)], stk := [[]], H := [], blk := 131072 }
def nodeslices_Repeat_string_string_n2 {β : Type} : Islices_Repeat_string_string_n2 → (Yslices_Repeat_string_string_n2 → Option β) → Option β := fun (t0, t6, t26) exit => (bif t26 then none else (exit ()))
def nodeDslices_Repeat_string_string_n2 (i : Islices_Repeat_string_string_n2) : Option Yslices_Repeat_string_string_n2 := nodeslices_Repeat_string_string_n2 i some
theorem nodeslices_Repeat_string_string_n2_nat (i : Islices_Repeat_string_string_n2) (k : Yslices_Repeat_string_string_n2 → Ans) : nodeslices_Repeat_string_string_n2 i k = bindO (nodeDslices_Repeat_string_string_n2 i) k := by
  obtain ⟨t0, t6, t26⟩ := i
  simp only [nodeDslices_Repeat_string_string_n2, nodeslices_Repeat_string_string_n2, bindO_cond, bindO_assoc, bindO_none, bindO_pure, bindO_elim, bindO_unP]
theorem nodeslices_Repeat_string_string_n2_ok (i : Islices_Repeat_string_string_n2) (K : Ex → St → Ans) : codeI Try.tab envslices_Repeat_string_string noHint (codeD Try.tab envslices_Repeat_string_string noHint 0 64) 70 48 annLslices_Repeat_string_string_n2 Lslices_Repeat_string_string_n2 (weakP 0 (exk [0, 6] [4] []) K) (Sslices_Repeat_string_string_n2 i) = nodeslices_Repeat_string_string_n2 i (outslices_Repeat_string_string_n2 i K) := by kernel_rfl
theorem GNslices_Repeat_string_string_n2_ok : CSum Try.prog 48 Lslices_Repeat_string_string_n2 (sumN decslices_Repeat_string_string_n2 nodeDslices_Repeat_string_string_n2 outslices_Repeat_string_string_n2) := csum_node mixed tabOk envslices_Repeat_string_stringOk 0 (exk [0, 6] [4] []) annLslices_Repeat_string_string_n2_ok decslices_Repeat_string_string_n2_ok nodeslices_Repeat_string_string_n2_ok nodeslices_Repeat_string_string_n2_nat
noncomputable def Gslices_Repeat_string_string_n2 : (Ex → St → Ans) → St → Ans := (sumN decslices_Repeat_string_string_n2 nodeDslices_Repeat_string_string_n2 outslices_Repeat_string_string_n2)
theorem Gslices_Repeat_string_string_n2_ok : CSum Try.prog 48 Lslices_Repeat_string_string_n2 Gslices_Repeat_string_string_n2 := GNslices_Repeat_string_string_n2_ok
noncomputable def Lslices_Repeat_string_string_n1 : Code := codeAt [1, 1, 1, 0, 0] bslices_Repeat_string_string
noncomputable def annLslices_Repeat_string_string_n1 : Ann := .none
theorem annLslices_Repeat_string_string_n1_ok : AnnOk Try.prog 48 Lslices_Repeat_string_string_n1 annLslices_Repeat_string_string_n1 := (annOk_none _ _ _)
abbrev Islices_Repeat_string_string_n1 := (List (List UInt8)) × (Int) × (Int)
abbrev Yslices_Repeat_string_string_n1 := (Bool)
def Sslices_Repeat_string_string_n1 : Islices_Repeat_string_string_n1 → St := fun (t0, t5, t6) => { env := [(0, AV.ro Ty.str t0), (5, AV.int IntKind.u64 t5), (6, AV.int IntKind.u64 t6)], stk := [[]], H := [], blk := 131072 }
def decslices_Repeat_string_string_n1 (s : St) : Option Islices_Repeat_string_string_n1 := match s with
  | { env := [(0, AV.ro Ty.str t0), (5, AV.int IntKind.u64 t5), (6, AV.int IntKind.u64 t6)], stk := [[]], H := [], blk := 131072 } => some (t0, t5, t6)
  | _ => none
theorem decslices_Repeat_string_string_n1_ok (s : St) (x : Islices_Repeat_string_string_n1) (h : decslices_Repeat_string_string_n1 s = some x) : s = Sslices_Repeat_string_string_n1 x := by
  unfold decslices_Repeat_string_string_n1 at h
  split at h
  · cases h; rfl
  · cases h
def outslices_Repeat_string_string_n1 : Islices_Repeat_string_string_n1 → (Ex → St → Ans) → Yslices_Repeat_string_string_n1 → Ans := fun (t0, t5, t6) K => fun t26_y => K (Ex.norm) { env := [(0, AV.ro Ty.str t0), (6, AV.int IntKind.u64 t6), (26, AV.bool t26_y)], stk := [[]], H := [], blk := 131072 }
def nodeslices_Repeat_string_string_n1 {β : Type} : Islices_Repeat_string_string_n1 → (Yslices_Repeat_string_string_n1 → Option β) → Option β := fun (t0, t5, t6) exit => (bif decide (t5 > (0 : Int)) then (exit (true)) else (exit (decide (t6 > (9223372036854775807 : Int)))))
def nodeDslices_Repeat_string_string_n1 (i : Islices_Repeat_string_string_n1) : Option Yslices_Repeat_string_string_n1 := nodeslices_Repeat_string_string_n1 i some
theorem nodeslices_Repeat_string_string_n1_nat (i : Islices_Repeat_string_string_n1) (k : Yslices_Repeat_string_string_n1 → Ans) : nodeslices_Repeat_string_string_n1 i k = bindO (nodeDslices_Repeat_string_string_n1 i) k := by
  obtain ⟨t0, t5, t6⟩ := i
  simp only [nodeDslices_Repeat_string_string_n1, nodeslices_Repeat_string_string_n1, bindO_cond, bindO_assoc, bindO_none, bindO_pure, bindO_elim, bindO_unP]
theorem nodeslices_Repeat_string_string_n1_ok (i : Islices_Repeat_string_string_n1) (K : Ex → St → Ans) : codeI Try.tab envslices_Repeat_string_string noHint (codeD Try.tab envslices_Repeat_string_string noHint 0 64) 70 48 annLslices_Repeat_string_string_n1 Lslices_Repeat_string_string_n1 (weakP 0 (exk [0, 6, 26] [4] []) K) (Sslices_Repeat_string_string_n1 i) = nodeslices_Repeat_string_string_n1 i (outslices_Repeat_string_string_n1 i K) := by kernel_rfl
theorem GNslices_Repeat_string_string_n1_ok : CSum Try.prog 48 Lslices_Repeat_string_string_n1 (sumN decslices_Repeat_string_string_n1 nodeDslices_Repeat_string_string_n1 outslices_Repeat_string_string_n1) := csum_node mixed tabOk envslices_Repeat_string_stringOk 0 (exk [0, 6, 26] [4] []) annLslices_Repeat_string_string_n1_ok decslices_Repeat_string_string_n1_ok nodeslices_Repeat_string_string_n1_ok nodeslices_Repeat_string_string_n1_nat
noncomputable def Gslices_Repeat_string_string_n1 : (Ex → St → Ans) → St → Ans := (sumN decslices_Repeat_string_string_n1 nodeDslices_Repeat_string_string_n1 outslices_Repeat_string_string_n1)
theorem Gslices_Repeat_string_string_n1_ok : CSum Try.prog 48 Lslices_Repeat_string_string_n1 Gslices_Repeat_string_string_n1 := GNslices_Repeat_string_string_n1_ok
noncomputable def Lslices_Repeat_string_string_n0 : Code := codeAt [1, 0, 1] bslices_Repeat_string_string
noncomputable def annLslices_Repeat_string_string_n0 : Ann := .none
theorem annLslices_Repeat_string_string_n0_ok : AnnOk Try.prog 48 Lslices_Repeat_string_string_n0 annLslices_Repeat_string_string_n0 := (annOk_none _ _ _)
abbrev Islices_Repeat_string_string_n0 := (List (List UInt8)) × (Int) × (Bool)
abbrev Yslices_Repeat_string_string_n0 := Unit
def Sslices_Repeat_string_string_n0 : Islices_Repeat_string_string_n0 → St := fun (t0, t1, t10) => { env := [(0, AV.ro Ty.str t0), (1, AV.int IntKind.i64 t1), (10, AV.bool t10)], stk := [[]], H := [], blk := 131072 }
def decslices_Repeat_string_string_n0 (s : St) : Option Islices_Repeat_string_string_n0 := match s with
  | { env := [(0, AV.ro Ty.str t0), (1, AV.int IntKind.i64 t1), (10, AV.bool t10)], stk := [[]], H := [], blk := 131072 } => some (t0, t1, t10)
  | _ => none
theorem decslices_Repeat_string_string_n0_ok (s : St) (x : Islices_Repeat_string_string_n0) (h : decslices_Repeat_string_string_n0 s = some x) : s = Sslices_Repeat_string_string_n0 x := by
  unfold decslices_Repeat_string_string_n0 at h
  split at h
  · cases h; rfl
  · cases h
def outslices_Repeat_string_string_n0 : Islices_Repeat_string_string_n0 → (Ex → St → Ans) → Yslices_Repeat_string_string_n0 → Ans := fun (t0, t1, t10) K => fun _ => K (Ex.norm) { env := [(0, AV.ro Ty.str t0), (1, AV.int IntKind.i64 t1)], stk := [[]], H := [], blk := 131072 }
def nodeslices_Repeat_string_string_n0 {β : Type} : Islices_Repeat_string_string_n0 → (Yslices_Repeat_string_string_n0 → Option β) → Option β := fun (t0, t1, t10) exit => (bif t10 then none else (exit ()))
def nodeDslices_Repeat_string_string_n0 (i : Islices_Repeat_string_string_n0) : Option Yslices_Repeat_string_string_n0 := nodeslices_Repeat_string_string_n0 i some
theorem nodeslices_Repeat_string_string_n0_nat (i : Islices_Repeat_string_string_n0) (k : Yslices_Repeat_string_string_n0 → Ans) : nodeslices_Repeat_string_string_n0 i k = bindO (nodeDslices_Repeat_string_string_n0 i) k := by
  obtain ⟨t0, t1, t10⟩ := i
  simp only [nodeDslices_Repeat_string_string_n0, nodeslices_Repeat_string_string_n0, bindO_cond, bindO_assoc, bindO_none, bindO_pure, bindO_elim, bindO_unP]
theorem nodeslices_Repeat_string_string_n0_ok (i : Islices_Repeat_string_string_n0) (K : Ex → St → Ans) : codeI Try.tab envslices_Repeat_string_string noHint (codeD Try.tab envslices_Repeat_string_string noHint 0 64) 70 48 annLslices_Repeat_string_string_n0 Lslices_Repeat_string_string_n0 (weakP 0 (exk [0, 1] [4] []) K) (Sslices_Repeat_string_string_n0 i) = nodeslices_Repeat_string_string_n0 i (outslices_Repeat_string_string_n0 i K) := by kernel_rfl
theorem GNslices_Repeat_string_string_n0_ok : CSum Try.prog 48 Lslices_Repeat_string_string_n0 (sumN decslices_Repeat_string_string_n0 nodeDslices_Repeat_string_string_n0 outslices_Repeat_string_string_n0) := csum_node mixed tabOk envslices_Repeat_string_stringOk 0 (exk [0, 1] [4] []) annLslices_Repeat_string_string_n0_ok decslices_Repeat_string_string_n0_ok nodeslices_Repeat_string_string_n0_ok nodeslices_Repeat_string_string_n0_nat
noncomputable def Gslices_Repeat_string_string_n0 : (Ex → St → Ans) → St → Ans := (sumN decslices_Repeat_string_string_n0 nodeDslices_Repeat_string_string_n0 outslices_Repeat_string_string_n0)
theorem Gslices_Repeat_string_string_n0_ok : CSum Try.prog 48 Lslices_Repeat_string_string_n0 Gslices_Repeat_string_string_n0 := GNslices_Repeat_string_string_n0_ok
noncomputable def annslices_Repeat_string_string : Ann := (.seq .none (.seq (.seq .none (.cut 0 [0, 1, 10] Gslices_Repeat_string_string_n0)) (.seq .none (.seq (.seq (.cut 0 [0, 5, 6] Gslices_Repeat_string_string_n1) (.cut 0 [0, 6, 26] Gslices_Repeat_string_string_n2)) (.seq .none (.seq .none (.seq (.block (.cut 0 [7, 8] Gslices_Repeat_string_string_n3)) .none)))))))
theorem annslices_Repeat_string_string_ok : AnnOk Try.prog 48 bslices_Repeat_string_string annslices_Repeat_string_string := ⟨(annOk_none _ _ _), ⟨⟨(annOk_none _ _ _), Gslices_Repeat_string_string_n0_ok⟩, ⟨(annOk_none _ _ _), ⟨⟨Gslices_Repeat_string_string_n1_ok, Gslices_Repeat_string_string_n2_ok⟩, ⟨(annOk_none _ _ _), ⟨(annOk_none _ _ _), ⟨Gslices_Repeat_string_string_n3_ok, (annOk_none _ _ _)⟩⟩⟩⟩⟩⟩⟩
abbrev Aslices_Repeat_string_string := (List (List UInt8)) × (Int)
abbrev Yslices_Repeat_string_string := (List (List UInt8))
def fnslices_Repeat_string_string {β : Type} : Aslices_Repeat_string_string → (Yslices_Repeat_string_string → Option β) → Option β := fun (a0, a1) exit => (bindO (nodeDslices_Repeat_string_string_n0 (a0, a1, decide (a1 < (0 : Int)))) fun _ => (bindO (fnDmath_bits_Mul (IntKind.wrap IntKind.u64 (↑(List.length a0) : Int), IntKind.wrap IntKind.u64 a1)) (unP fun r_0 r_1 => (bindO (nodeDslices_Repeat_string_string_n1 (a0, r_0, r_1)) fun t26 => (bindO (nodeDslices_Repeat_string_string_n2 (a0, r_1, t26)) fun _ => (bif decide ((0 : Int) ≤ IntKind.wrap IntKind.i64 r_1) && decide (IntKind.wrap IntKind.i64 r_1 ≤ IntKind.wrap IntKind.i64 r_1) && decide ((16 : Int) * IntKind.wrap IntKind.i64 r_1 ≤ (281474976710656 : Int)) && decide (IntKind.wrap IntKind.i64 r_1 ≤ (9223372036854775807 : Int)) then (bindO (loopD (stepDslices_Repeat_string_string_n3 ()) FUEL ((↑(Nat.min (List.length a0) (List.length (List.replicate (Int.toNat (IntKind.wrap IntKind.i64 r_1)) (nilL UInt8)))) : Int), List.take (List.length (List.replicate (Int.toNat (IntKind.wrap IntKind.i64 r_1)) (nilL UInt8))) a0 ++ List.drop (List.length a0) (List.replicate (Int.toNat (IntKind.wrap IntKind.i64 r_1)) (nilL UInt8)))) fun o0 => (exit (o0))) else none))))))
def fnDslices_Repeat_string_string (a : Aslices_Repeat_string_string) : Option Yslices_Repeat_string_string := fnslices_Repeat_string_string a some
theorem fnslices_Repeat_string_string_nat (a : Aslices_Repeat_string_string) (k : Yslices_Repeat_string_string → Ans) : fnslices_Repeat_string_string a k = bindO (fnDslices_Repeat_string_string a) k := by
  obtain ⟨a0, a1⟩ := a
  simp only [fnDslices_Repeat_string_string, fnslices_Repeat_string_string, bindO_cond, bindO_assoc, bindO_none, bindO_pure, bindO_elim, bindO_unP]
def argsslices_Repeat_string_string : Aslices_Repeat_string_string → List AV × List AE.Obj := fun (a0, a1) => ([AV.ro Ty.str a0, AV.int IntKind.i64 a1], [])
def decAslices_Repeat_string_string (l : List AV) (H : List AE.Obj) : Option Aslices_Repeat_string_string := match l, H with
  | [AV.ro Ty.str a0, AV.int IntKind.i64 a1], [] => some (a0, a1)
  | _, _ => none
theorem decAslices_Repeat_string_string_ok (l : List AV) (H : List AE.Obj) (a : Aslices_Repeat_string_string) (h : decAslices_Repeat_string_string l H = some a) : (l, H) = argsslices_Repeat_string_string a := by
  unfold decAslices_Repeat_string_string at h
  split at h
  · cases h; rfl
  · cases h
def outslices_Repeat_string_string : Aslices_Repeat_string_string → (AV → List AE.Obj → Ans) → Yslices_Repeat_string_string → Ans := fun (a0, a1) K => fun o0_y => K (AV.own 0) [Obj.arr Ty.str o0_y]
theorem fnslices_Repeat_string_string_ok (a : Aslices_Repeat_string_string) (K : AV → List AE.Obj → Ans) : fnE Try.tab envslices_Repeat_string_string noHint 0 70 32 Try.f32.ntmps Try.f32.results.toList annslices_Repeat_string_string bslices_Repeat_string_string (argsslices_Repeat_string_string a).1 (argsslices_Repeat_string_string a).2 K = fnslices_Repeat_string_string a (outslices_Repeat_string_string a K) := by kernel_rfl
def vFslices_Repeat_string_string (a : Aslices_Repeat_string_string) (K : AV → List AE.Obj → Ans) : Ans := bindO (fnDslices_Repeat_string_string a) fun y => outslices_Repeat_string_string a K y
def Fslices_Repeat_string_string : List AV → List AE.Obj → (AV → List AE.Obj → Ans) → Ans := fun l H K => bindO (decAslices_Repeat_string_string l H) fun a => vFslices_Repeat_string_string a K
theorem Fslices_Repeat_string_string_ok : FuncOk Try.prog 32 Fslices_Repeat_string_string := func_mkD (hint := noHint) (d := 0) (n := 70) mixed tabOk envslices_Repeat_string_stringOk Try.func32 (bodySome (by kernel_rfl)) (by decide +kernel) annslices_Repeat_string_string_ok decAslices_Repeat_string_string_ok fnslices_Repeat_string_string_ok fnslices_Repeat_string_string_nat
--@ disk_New
noncomputable def envdisk_New : Env := [(33, .pure Fstrings_Repeat), (32, .func Fslices_Repeat_string_string)]
theorem envdisk_NewOk : EnvOk Try.prog envdisk_New := EnvOk.cons Fstrings_Repeat_ok (EnvOk.cons Fslices_Repeat_string_string_ok (EnvOk.nil))
noncomputable def bdisk_New : Code := Try.f13.body.getD .skip
noncomputable def anndisk_New : Ann := .none
theorem anndisk_New_ok : AnnOk Try.prog 14 bdisk_New anndisk_New := (annOk_none _ _ _)
abbrev Adisk_New := (Int)
abbrev Ydisk_New := (List (List UInt8))
def fndisk_New {β : Type} : Adisk_New → (Ydisk_New → Option β) → Option β := fun a0 exit => (bindO (fnDstrings_Repeat ([(0 : UInt8)], (64 : Int))) fun r => (bindO (fnDslices_Repeat_string_string ([r], if (1000 : Int) < if (0 : Int) > a0 then (0 : Int) else a0 then (1000 : Int) else if (0 : Int) > a0 then (0 : Int) else a0)) fun o0 => (exit (o0))))
def fnDdisk_New (a : Adisk_New) : Option Ydisk_New := fndisk_New a some
theorem fndisk_New_nat (a : Adisk_New) (k : Ydisk_New → Ans) : fndisk_New a k = bindO (fnDdisk_New a) k := by
  obtain z := a
  simp only [fnDdisk_New, fndisk_New, bindO_cond, bindO_assoc, bindO_none, bindO_pure, bindO_elim, bindO_unP]
def argsdisk_New : Adisk_New → List AV × List AE.Obj := fun a0 => ([AV.int IntKind.i64 a0], [])
def decAdisk_New (l : List AV) (H : List AE.Obj) : Option Adisk_New := match l, H with
  | [AV.int IntKind.i64 a0], [] => some (a0)
  | _, _ => none
theorem decAdisk_New_ok (l : List AV) (H : List AE.Obj) (a : Adisk_New) (h : decAdisk_New l H = some a) : (l, H) = argsdisk_New a := by
  unfold decAdisk_New at h
  split at h
  · cases h; rfl
  · cases h
def outdisk_New : Adisk_New → (AV → List AE.Obj → Ans) → Ydisk_New → Ans := fun a0 K => fun o1_y => K (AV.ptr 0 0) [AE.Obj.cells [AV.own 1, AV.map 2, AV.own 3, AV.int IntKind.i64 (0), AV.own 4, AV.int IntKind.i64 (0), AV.bool (false)], Obj.arr Ty.str o1_y, Obj.mp IntKind.i64 Ty.str ([]), Obj.arr (Ty.st (Ty.pair (Ty.int IntKind.i64) Ty.str)) ([]), Obj.arr (Ty.int IntKind.i64) ([])]
theorem fndisk_New_ok (a : Adisk_New) (K : AV → List AE.Obj → Ans) : fnE Try.tab envdisk_New noHint 0 70 13 Try.f13.ntmps Try.f13.results.toList anndisk_New bdisk_New (argsdisk_New a).1 (argsdisk_New a).2 K = fndisk_New a (outdisk_New a K) := by kernel_rfl
def vFdisk_New (a : Adisk_New) (K : AV → List AE.Obj → Ans) : Ans := bindO (fnDdisk_New a) fun y => outdisk_New a K y
def Fdisk_New : List AV → List AE.Obj → (AV → List AE.Obj → Ans) → Ans := fun l H K => bindO (decAdisk_New l H) fun a => vFdisk_New a K
theorem Fdisk_New_ok : FuncOk Try.prog 13 Fdisk_New := func_mkD (hint := noHint) (d := 0) (n := 70) mixed tabOk envdisk_NewOk Try.func13 (bodySome (by kernel_rfl)) (by decide +kernel) anndisk_New_ok decAdisk_New_ok fndisk_New_ok fndisk_New_nat
--@ disk_Disk_Sectors
noncomputable def envdisk_Disk_Sectors : Env := []
theorem envdisk_Disk_SectorsOk : EnvOk Try.prog envdisk_Disk_Sectors := EnvOk.nil
noncomputable def bdisk_Disk_Sectors : Code := Try.f31.body.getD .skip
noncomputable def anndisk_Disk_Sectors : Ann := .none
theorem anndisk_Disk_Sectors_ok : AnnOk Try.prog 10 bdisk_Disk_Sectors anndisk_Disk_Sectors := (annOk_none _ _ _)
abbrev Adisk_Disk_Sectors := (Int) × (Int) × (Bool) × (List (List UInt8)) × (List (Int × List UInt8)) × (List (Int × List UInt8)) × (List Int)
abbrev Ydisk_Disk_Sectors := (Int)
def fndisk_Disk_Sectors {β : Type} : Adisk_Disk_Sectors → (Ydisk_Disk_Sectors → Option β) → Option β := fun (o0_3, o0_5, o0_6, o1, o2, o3, o4) exit => (exit ((↑(List.length o1) : Int)))
def fnDdisk_Disk_Sectors (a : Adisk_Disk_Sectors) : Option Ydisk_Disk_Sectors := fndisk_Disk_Sectors a some
theorem fndisk_Disk_Sectors_nat (a : Adisk_Disk_Sectors) (k : Ydisk_Disk_Sectors → Ans) : fndisk_Disk_Sectors a k = bindO (fnDdisk_Disk_Sectors a) k := by
  obtain ⟨o0_3, o0_5, o0_6, o1, o2, o3, o4⟩ := a
  simp only [fnDdisk_Disk_Sectors, fndisk_Disk_Sectors, bindO_cond, bindO_assoc, bindO_none, bindO_pure, bindO_elim, bindO_unP]
def argsdisk_Disk_Sectors : Adisk_Disk_Sectors → List AV × List AE.Obj := fun (o0_3, o0_5, o0_6, o1, o2, o3, o4) => ([AV.ptr 0 0], [AE.Obj.cells [AV.own 1, AV.map 2, AV.own 3, AV.int IntKind.i64 o0_3, AV.own 4, AV.int IntKind.i64 o0_5, AV.bool o0_6], Obj.arr Ty.str o1, Obj.mp IntKind.i64 Ty.str o2, Obj.arr (Ty.st (Ty.pair (Ty.int IntKind.i64) Ty.str)) o3, Obj.arr (Ty.int IntKind.i64) o4])
def decAdisk_Disk_Sectors (l : List AV) (H : List AE.Obj) : Option Adisk_Disk_Sectors := match l, H with
  | [AV.ptr 0 0], [AE.Obj.cells [AV.own 1, AV.map 2, AV.own 3, AV.int IntKind.i64 o0_3, AV.own 4, AV.int IntKind.i64 o0_5, AV.bool o0_6], Obj.arr Ty.str o1, Obj.mp IntKind.i64 Ty.str o2, Obj.arr (Ty.st (Ty.pair (Ty.int IntKind.i64) Ty.str)) o3, Obj.arr (Ty.int IntKind.i64) o4] => some (o0_3, o0_5, o0_6, o1, o2, o3, o4)
  | _, _ => none
theorem decAdisk_Disk_Sectors_ok (l : List AV) (H : List AE.Obj) (a : Adisk_Disk_Sectors) (h : decAdisk_Disk_Sectors l H = some a) : (l, H) = argsdisk_Disk_Sectors a := by
  unfold decAdisk_Disk_Sectors at h
  split at h
  · cases h; rfl
  · cases h
def outdisk_Disk_Sectors : Adisk_Disk_Sectors → (AV → List AE.Obj → Ans) → Ydisk_Disk_Sectors → Ans := fun (o0_3, o0_5, o0_6, o1, o2, o3, o4) K => fun r_y => K (AV.int IntKind.i64 r_y) [AE.Obj.cells [AV.own 1, AV.map 2, AV.own 3, AV.int IntKind.i64 o0_3, AV.own 4, AV.int IntKind.i64 o0_5, AV.bool o0_6], Obj.arr Ty.str o1, Obj.mp IntKind.i64 Ty.str o2, Obj.arr (Ty.st (Ty.pair (Ty.int IntKind.i64) Ty.str)) o3, Obj.arr (Ty.int IntKind.i64) o4]
theorem fndisk_Disk_Sectors_ok (a : Adisk_Disk_Sectors) (K : AV → List AE.Obj → Ans) : fnE Try.tab envdisk_Disk_Sectors noHint 0 70 31 Try.f31.ntmps Try.f31.results.toList anndisk_Disk_Sectors bdisk_Disk_Sectors (argsdisk_Disk_Sectors a).1 (argsdisk_Disk_Sectors a).2 K = fndisk_Disk_Sectors a (outdisk_Disk_Sectors a K) := by kernel_rfl
def vFdisk_Disk_Sectors (a : Adisk_Disk_Sectors) (K : AV → List AE.Obj → Ans) : Ans := bindO (fnDdisk_Disk_Sectors a) fun y => outdisk_Disk_Sectors a K y
def Fdisk_Disk_Sectors : List AV → List AE.Obj → (AV → List AE.Obj → Ans) → Ans := fun l H K => bindO (decAdisk_Disk_Sectors l H) fun a => vFdisk_Disk_Sectors a K
theorem Fdisk_Disk_Sectors_ok : FuncOk Try.prog 31 Fdisk_Disk_Sectors := func_mkD (hint := noHint) (d := 0) (n := 70) mixed tabOk envdisk_Disk_SectorsOk Try.func31 (bodySome (by kernel_rfl)) (by decide +kernel) anndisk_Disk_Sectors_ok decAdisk_Disk_Sectors_ok fndisk_Disk_Sectors_ok fndisk_Disk_Sectors_nat
--@ region_inside
noncomputable def envregion_inside : Env := []
theorem envregion_insideOk : EnvOk Try.prog envregion_inside := EnvOk.nil
noncomputable def bregion_inside : Code := Try.f30.body.getD .skip
noncomputable def Lregion_inside_n0 : Code := codeAt [1, 0] bregion_inside
noncomputable def annLregion_inside_n0 : Ann := .none
theorem annLregion_inside_n0_ok : AnnOk Try.prog 25 Lregion_inside_n0 annLregion_inside_n0 := (annOk_none _ _ _)
abbrev Iregion_inside_n0 := (Int) × (Int) × (Int)
abbrev Yregion_inside_n0 := (Bool)
def Sregion_inside_n0 : Iregion_inside_n0 → St := fun (t0, t1, t2) => { env := [(0, AV.int IntKind.i64 t0), (1, AV.int IntKind.i64 t1), (2, AV.int IntKind.i64 t2)], stk := [[]], H := [], blk := 122880 }
def decregion_inside_n0 (s : St) : Option Iregion_inside_n0 := match s with
  | { env := [(0, AV.int IntKind.i64 t0), (1, AV.int IntKind.i64 t1), (2, AV.int IntKind.i64 t2)], stk := [[]], H := [], blk := 122880 } => some (t0, t1, t2)
  | _ => none
theorem decregion_inside_n0_ok (s : St) (x : Iregion_inside_n0) (h : decregion_inside_n0 s = some x) : s = Sregion_inside_n0 x := by
  unfold decregion_inside_n0 at h
  split at h
  · cases h; rfl
  · cases h
def outregion_inside_n0 : Iregion_inside_n0 → (Ex → St → Ans) → Yregion_inside_n0 → Ans := fun (t0, t1, t2) K => fun t6_y => K (Ex.norm) { env := [(6, AV.bool t6_y)], stk := [[]], H := [], blk := 122880 }
def noderegion_inside_n0 {β : Type} : Iregion_inside_n0 → (Yregion_inside_n0 → Option β) → Option β := fun (t0, t1, t2) exit => (bif decide (t0 ≥ (0 : Int)) then (bif decide (t1 ≥ (0 : Int)) then (bif decide (t0 ≤ t2) then (exit (decide (t1 ≤ IntKind.wrap IntKind.i64 (t2 - t0)))) else (exit (false))) else (exit (false))) else (exit (false)))
def nodeDregion_inside_n0 (i : Iregion_inside_n0) : Option Yregion_inside_n0 := noderegion_inside_n0 i some
theorem noderegion_inside_n0_nat (i : Iregion_inside_n0) (k : Yregion_inside_n0 → Ans) : noderegion_inside_n0 i k = bindO (nodeDregion_inside_n0 i) k := by
  obtain ⟨t0, t1, t2⟩ := i
  simp only [nodeDregion_inside_n0, noderegion_inside_n0, bindO_cond, bindO_assoc, bindO_none, bindO_pure, bindO_elim, bindO_unP]
theorem noderegion_inside_n0_ok (i : Iregion_inside_n0) (K : Ex → St → Ans) : codeI Try.tab envregion_inside noHint (codeD Try.tab envregion_inside noHint 0 64) 70 25 annLregion_inside_n0 Lregion_inside_n0 (weakP 0 (exk [6] [6] []) K) (Sregion_inside_n0 i) = noderegion_inside_n0 i (outregion_inside_n0 i K) := by kernel_rfl
theorem GNregion_inside_n0_ok : CSum Try.prog 25 Lregion_inside_n0 (sumN decregion_inside_n0 nodeDregion_inside_n0 outregion_inside_n0) := csum_node mixed tabOk envregion_insideOk 0 (exk [6] [6] []) annLregion_inside_n0_ok decregion_inside_n0_ok noderegion_inside_n0_ok noderegion_inside_n0_nat
noncomputable def Gregion_inside_n0 : (Ex → St → Ans) → St → Ans := (sumN decregion_inside_n0 nodeDregion_inside_n0 outregion_inside_n0)
theorem Gregion_inside_n0_ok : CSum Try.prog 25 Lregion_inside_n0 Gregion_inside_n0 := GNregion_inside_n0_ok
noncomputable def annregion_inside : Ann := (.seq .none (.seq (.cut 0 [0, 1, 2] Gregion_inside_n0) .none))
theorem annregion_inside_ok : AnnOk Try.prog 25 bregion_inside annregion_inside := ⟨(annOk_none _ _ _), ⟨Gregion_inside_n0_ok, (annOk_none _ _ _)⟩⟩
abbrev Aregion_inside := (Int) × (Int) × (Int)
abbrev Yregion_inside := (Bool)
def fnregion_inside {β : Type} : Aregion_inside → (Yregion_inside → Option β) → Option β := fun (a0, a1, a2) exit => (bindO (nodeDregion_inside_n0 (a0, a1, a2)) fun t6 => (exit (t6)))
def fnDregion_inside (a : Aregion_inside) : Option Yregion_inside := fnregion_inside a some
theorem fnregion_inside_nat (a : Aregion_inside) (k : Yregion_inside → Ans) : fnregion_inside a k = bindO (fnDregion_inside a) k := by
  obtain ⟨a0, a1, a2⟩ := a
  simp only [fnDregion_inside, fnregion_inside, bindO_cond, bindO_assoc, bindO_none, bindO_pure, bindO_elim, bindO_unP]
def argsregion_inside : Aregion_inside → List AV := fun (a0, a1, a2) => [AV.int IntKind.i64 a0, AV.int IntKind.i64 a1, AV.int IntKind.i64 a2]
def decAregion_inside (l : List AV) : Option Aregion_inside := match l with
  | [AV.int IntKind.i64 a0, AV.int IntKind.i64 a1, AV.int IntKind.i64 a2] => some (a0, a1, a2)
  | _ => none
theorem decAregion_inside_ok (l : List AV) (a : Aregion_inside) (h : decAregion_inside l = some a) : l = argsregion_inside a := by
  unfold decAregion_inside at h
  split at h
  · cases h; rfl
  · cases h
def rendregion_inside : Aregion_inside → Yregion_inside → AV := fun (a0, a1, a2) => fun r_y => AV.bool r_y
theorem rendregion_inside_ok : ∀ (a : Aregion_inside) (y : Yregion_inside), (rendregion_inside a y).closed1 = true := by
  rintro ⟨a0, a1, a2⟩ y <;> first | rfl | exact Empty.elim y
theorem fnregion_inside_ok (a : Aregion_inside) : fnE Try.tab envregion_inside noHint 0 70 30 Try.f30.ntmps Try.f30.results.toList annregion_inside bregion_inside (argsregion_inside a) [] (fun v _ => some (v, [])) = fnregion_inside a (fun y => some (rendregion_inside a y, [])) := by kernel_rfl
def vFregion_inside (a : Aregion_inside) (K : AV → Ans) : Ans := bindO (fnDregion_inside a) fun y => K (rendregion_inside a y)
def Fregion_inside : List AV → (AV → Ans) → Ans := fun l K => bindO (decAregion_inside l) fun a => vFregion_inside a K
theorem Fregion_inside_ok : PureOk Try.prog 30 Fregion_inside := pure_mkD (hint := noHint) (d := 0) (n := 70) mixed tabOk envregion_insideOk Try.func30 (bodySome (by kernel_rfl)) (by decide +kernel) annregion_inside_ok decAregion_inside_ok fnregion_inside_ok fnregion_inside_nat rendregion_inside_ok
--@ region_New
noncomputable def envregion_New : Env := [(31, .func Fdisk_Disk_Sectors), (30, .pure Fregion_inside)]
theorem envregion_NewOk : EnvOk Try.prog envregion_New := EnvOk.cons Fdisk_Disk_Sectors_ok (EnvOk.cons Fregion_inside_ok (EnvOk.nil))
noncomputable def bregion_New : Code := Try.f12.body.getD .skip
noncomputable def annregion_New : Ann := .none
theorem annregion_New_ok : AnnOk Try.prog 19 bregion_New annregion_New := (annOk_none _ _ _)
abbrev Aregion_New := (Int) × (Int) × (Int) × (Int) × (Bool) × (List (List UInt8)) × (List (Int × List UInt8)) × (List (Int × List UInt8)) × (List Int)
abbrev Yregion_New := (Unit) ⊕ (Unit)
def fnregion_New {β : Type} : Aregion_New → (Yregion_New → Option β) → Option β := fun (a1, a2, o0_3, o0_5, o0_6, o1, o2, o3, o4) exit => (bindO (fnDdisk_Disk_Sectors (o0_3, o0_5, o0_6, o1, o2, o3, o4)) fun r => (bindO (fnDregion_inside (a1, a2, r)) fun r_2 => (bif !r_2 then (exit (Sum.inl ())) else (exit (Sum.inr ())))))
def fnDregion_New (a : Aregion_New) : Option Yregion_New := fnregion_New a some
theorem fnregion_New_nat (a : Aregion_New) (k : Yregion_New → Ans) : fnregion_New a k = bindO (fnDregion_New a) k := by
  obtain ⟨a1, a2, o0_3, o0_5, o0_6, o1, o2, o3, o4⟩ := a
  simp only [fnDregion_New, fnregion_New, bindO_cond, bindO_assoc, bindO_none, bindO_pure, bindO_elim, bindO_unP]
def argsregion_New : Aregion_New → List AV × List AE.Obj := fun (a1, a2, o0_3, o0_5, o0_6, o1, o2, o3, o4) => ([AV.ptr 0 0, AV.int IntKind.i64 a1, AV.int IntKind.i64 a2], [AE.Obj.cells [AV.own 1, AV.map 2, AV.own 3, AV.int IntKind.i64 o0_3, AV.own 4, AV.int IntKind.i64 o0_5, AV.bool o0_6], Obj.arr Ty.str o1, Obj.mp IntKind.i64 Ty.str o2, Obj.arr (Ty.st (Ty.pair (Ty.int IntKind.i64) Ty.str)) o3, Obj.arr (Ty.int IntKind.i64) o4])
def decAregion_New (l : List AV) (H : List AE.Obj) : Option Aregion_New := match l, H with
  | [AV.ptr 0 0, AV.int IntKind.i64 a1, AV.int IntKind.i64 a2], [AE.Obj.cells [AV.own 1, AV.map 2, AV.own 3, AV.int IntKind.i64 o0_3, AV.own 4, AV.int IntKind.i64 o0_5, AV.bool o0_6], Obj.arr Ty.str o1, Obj.mp IntKind.i64 Ty.str o2, Obj.arr (Ty.st (Ty.pair (Ty.int IntKind.i64) Ty.str)) o3, Obj.arr (Ty.int IntKind.i64) o4] => some (a1, a2, o0_3, o0_5, o0_6, o1, o2, o3, o4)
  | _, _ => none
theorem decAregion_New_ok (l : List AV) (H : List AE.Obj) (a : Aregion_New) (h : decAregion_New l H = some a) : (l, H) = argsregion_New a := by
  unfold decAregion_New at h
  split at h
  · cases h; rfl
  · cases h
def outregion_New : Aregion_New → (AV → List AE.Obj → Ans) → Yregion_New → Ans := fun (a1, a2, o0_3, o0_5, o0_6, o1, o2, o3, o4) K => (Sum.elim (fun _ => K (AV.tup [AV.nilp, AV.int IntKind.i64 (3)]) [AE.Obj.cells [AV.own 1, AV.map 2, AV.own 3, AV.int IntKind.i64 o0_3, AV.own 4, AV.int IntKind.i64 o0_5, AV.bool o0_6], Obj.arr Ty.str o1, Obj.mp IntKind.i64 Ty.str o2, Obj.arr (Ty.st (Ty.pair (Ty.int IntKind.i64) Ty.str)) o3, Obj.arr (Ty.int IntKind.i64) o4]) (fun _ => K (AV.tup [AV.ptr 5 0, AV.int IntKind.i64 (0)]) [AE.Obj.cells [AV.own 1, AV.map 2, AV.own 3, AV.int IntKind.i64 o0_3, AV.own 4, AV.int IntKind.i64 o0_5, AV.bool o0_6], Obj.arr Ty.str o1, Obj.mp IntKind.i64 Ty.str o2, Obj.arr (Ty.st (Ty.pair (Ty.int IntKind.i64) Ty.str)) o3, Obj.arr (Ty.int IntKind.i64) o4, AE.Obj.cells [AV.ptr 0 0, AV.int IntKind.i64 a1, AV.int IntKind.i64 a2]]))
theorem fnregion_New_ok (a : Aregion_New) (K : AV → List AE.Obj → Ans) : fnE Try.tab envregion_New noHint 0 70 12 Try.f12.ntmps Try.f12.results.toList annregion_New bregion_New (argsregion_New a).1 (argsregion_New a).2 K = fnregion_New a (outregion_New a K) := by kernel_rfl
def vFregion_New (a : Aregion_New) (K : AV → List AE.Obj → Ans) : Ans := bindO (fnDregion_New a) fun y => outregion_New a K y
def Fregion_New : List AV → List AE.Obj → (AV → List AE.Obj → Ans) → Ans := fun l H K => bindO (decAregion_New l H) fun a => vFregion_New a K
theorem Fregion_New_ok : FuncOk Try.prog 12 Fregion_New := func_mkD (hint := noHint) (d := 0) (n := 70) mixed tabOk envregion_NewOk Try.func12 (bodySome (by kernel_rfl)) (by decide +kernel) annregion_New_ok decAregion_New_ok fnregion_New_ok fnregion_New_nat
--@ logrec_Check_1
noncomputable def envlogrec_Check_1 : Env := []
theorem envlogrec_Check_1Ok : EnvOk Try.prog envlogrec_Check_1 := EnvOk.nil
noncomputable def blogrec_Check_1 : Code := Try.f40.body.getD .skip
noncomputable def annlogrec_Check_1 : Ann := .none
theorem annlogrec_Check_1_ok : AnnOk Try.prog 9 blogrec_Check_1 annlogrec_Check_1 := (annOk_none _ _ _)
abbrev Alogrec_Check_1 := (Int) × (List UInt8) × (Int) × (List UInt8)
abbrev Ylogrec_Check_1 := (Bool)
def fnlogrec_Check_1 {β : Type} : Alogrec_Check_1 → (Ylogrec_Check_1 → Option β) → Option β := fun (a0_0, a0_1, o0_0, o0_1) exit => (exit (a0_0 == o0_0))
def fnDlogrec_Check_1 (a : Alogrec_Check_1) : Option Ylogrec_Check_1 := fnlogrec_Check_1 a some
theorem fnlogrec_Check_1_nat (a : Alogrec_Check_1) (k : Ylogrec_Check_1 → Ans) : fnlogrec_Check_1 a k = bindO (fnDlogrec_Check_1 a) k := by
  obtain ⟨a0_0, a0_1, o0_0, o0_1⟩ := a
  simp only [fnDlogrec_Check_1, fnlogrec_Check_1, bindO_cond, bindO_assoc, bindO_none, bindO_pure, bindO_elim, bindO_unP]
def argslogrec_Check_1 : Alogrec_Check_1 → List AV × List AE.Obj := fun (a0_0, a0_1, o0_0, o0_1) => ([AV.agg [AV.int IntKind.i64 a0_0, AV.str a0_1], AV.ptr 0 0], [AE.Obj.cells [AV.int IntKind.i64 o0_0, AV.str o0_1]])
def decAlogrec_Check_1 (l : List AV) (H : List AE.Obj) : Option Alogrec_Check_1 := match l, H with
  | [AV.agg [AV.int IntKind.i64 a0_0, AV.str a0_1], AV.ptr 0 0], [AE.Obj.cells [AV.int IntKind.i64 o0_0, AV.str o0_1]] => some (a0_0, a0_1, o0_0, o0_1)
  | _, _ => none
theorem decAlogrec_Check_1_ok (l : List AV) (H : List AE.Obj) (a : Alogrec_Check_1) (h : decAlogrec_Check_1 l H = some a) : (l, H) = argslogrec_Check_1 a := by
  unfold decAlogrec_Check_1 at h
  split at h
  · cases h; rfl
  · cases h
def outlogrec_Check_1 : Alogrec_Check_1 → (AV → List AE.Obj → Ans) → Ylogrec_Check_1 → Ans := fun (a0_0, a0_1, o0_0, o0_1) K => fun r_y => K (AV.bool r_y) [AE.Obj.cells [AV.int IntKind.i64 o0_0, AV.str o0_1]]
theorem fnlogrec_Check_1_ok (a : Alogrec_Check_1) (K : AV → List AE.Obj → Ans) : fnE Try.tab envlogrec_Check_1 noHint 0 70 40 Try.f40.ntmps Try.f40.results.toList annlogrec_Check_1 blogrec_Check_1 (argslogrec_Check_1 a).1 (argslogrec_Check_1 a).2 K = fnlogrec_Check_1 a (outlogrec_Check_1 a K) := by kernel_rfl
def vFlogrec_Check_1 (a : Alogrec_Check_1) (K : AV → List AE.Obj → Ans) : Ans := bindO (fnDlogrec_Check_1 a) fun y => outlogrec_Check_1 a K y
def Flogrec_Check_1 : List AV → List AE.Obj → (AV → List AE.Obj → Ans) → Ans := fun l H K => bindO (decAlogrec_Check_1 l H) fun a => vFlogrec_Check_1 a K
theorem Flogrec_Check_1_ok : FuncOk Try.prog 40 Flogrec_Check_1 := func_mkD (hint := noHint) (d := 0) (n := 70) mixed tabOk envlogrec_Check_1Ok Try.func40 (bodySome (by kernel_rfl)) (by decide +kernel) annlogrec_Check_1_ok decAlogrec_Check_1_ok fnlogrec_Check_1_ok fnlogrec_Check_1_nat
--@ slices_IndexFunc_api_Sector_api_Sector
noncomputable def envslices_IndexFunc_api_Sector_api_Sector : Env := [(40, .func Flogrec_Check_1)]
theorem envslices_IndexFunc_api_Sector_api_SectorOk : EnvOk Try.prog envslices_IndexFunc_api_Sector_api_Sector := EnvOk.cons Flogrec_Check_1_ok (EnvOk.nil)
noncomputable def bslices_IndexFunc_api_Sector_api_Sector : Code := Try.f51.body.getD .skip
noncomputable def Lslices_IndexFunc_api_Sector_api_Sector_n0 : Code := codeAt [1, 0, 1, 0, 0] bslices_IndexFunc_api_Sector_api_Sector
noncomputable def annLslices_IndexFunc_api_Sector_api_Sector_n0 : Ann := .at 1 [0, 1, 7, 8] (.loop .none)
theorem annLslices_IndexFunc_api_Sector_api_Sector_n0_ok : AnnOk Try.prog 19 (.loop Lslices_IndexFunc_api_Sector_api_Sector_n0) annLslices_IndexFunc_api_Sector_api_Sector_n0 := annOk_at (annOk_none _ _ _)
abbrev Islices_IndexFunc_api_Sector_api_Sector_n0 := (List (Int × List UInt8)) × (Int) × (Int) × (List UInt8)
abbrev Yslices_IndexFunc_api_Sector_api_Sector_n0 := ((Int)) ⊕ (Unit)
abbrev Vslices_IndexFunc_api_Sector_api_Sector_n0 := (Int)
def Sslices_IndexFunc_api_Sector_api_Sector_n0 : Islices_IndexFunc_api_Sector_api_Sector_n0 → Vslices_IndexFunc_api_Sector_api_Sector_n0 → St := fun (t0, t7, o0_0, o0_1) t8 => { env := [(0, AV.ro (Ty.st (Ty.pair (Ty.int IntKind.i64) Ty.str)) t0), (1, AV.fn (Fn.func 40) [] [AV.ptr 0 0]), (7, AV.int IntKind.i64 t7), (8, AV.int IntKind.i64 t8)], stk := [[(0, AV.ptr 0 0)]], H := [AE.Obj.cells [AV.int IntKind.i64 o0_0, AV.str o0_1]], blk := 208896 }
def decslices_IndexFunc_api_Sector_api_Sector_n0 (s : St) : Option (Islices_IndexFunc_api_Sector_api_Sector_n0 × Vslices_IndexFunc_api_Sector_api_Sector_n0) := match s with
  | { env := [(0, AV.ro (Ty.st (Ty.pair (Ty.int IntKind.i64) Ty.str)) t0), (1, AV.fn (Fn.func 40) [] [AV.ptr 0 0]), (7, AV.int IntKind.i64 t7), (8, AV.int IntKind.i64 t8)], stk := [[(0, AV.ptr 0 0)]], H := [AE.Obj.cells [AV.int IntKind.i64 o0_0, AV.str o0_1]], blk := 208896 } => some ((t0, t7, o0_0, o0_1), t8)
  | _ => none
theorem decslices_IndexFunc_api_Sector_api_Sector_n0_ok (s : St) (x : Islices_IndexFunc_api_Sector_api_Sector_n0 × Vslices_IndexFunc_api_Sector_api_Sector_n0) (h : decslices_IndexFunc_api_Sector_api_Sector_n0 s = some x) : s = Sslices_IndexFunc_api_Sector_api_Sector_n0 x.1 x.2 := by
  unfold decslices_IndexFunc_api_Sector_api_Sector_n0 at h
  split at h
  · cases h; rfl
  · cases h
def outslices_IndexFunc_api_Sector_api_Sector_n0 : Islices_IndexFunc_api_Sector_api_Sector_n0 → (Ex → St → Ans) → Yslices_IndexFunc_api_Sector_api_Sector_n0 → Ans := fun (t0, t7, o0_0, o0_1) K => (Sum.elim (fun t4_y => K (Ex.ret) { env := [(4, AV.int IntKind.i64 t4_y)], stk := [[(0, AV.ptr 0 0)]], H := [AE.Obj.cells [AV.int IntKind.i64 o0_0, AV.str o0_1]], blk := 208897 }) (fun _ => K (Ex.exit 0) { env := [], stk := [[(0, AV.ptr 0 0)]], H := [AE.Obj.cells [AV.int IntKind.i64 o0_0, AV.str o0_1]], blk := 208896 }))
def stepslices_IndexFunc_api_Sector_api_Sector_n0 {β : Type} : Islices_IndexFunc_api_Sector_api_Sector_n0 → Vslices_IndexFunc_api_Sector_api_Sector_n0 → (Vslices_IndexFunc_api_Sector_api_Sector_n0 → Option β) → (Yslices_IndexFunc_api_Sector_api_Sector_n0 → Option β) → Option β := fun (t0, t7, o0_0, o0_1) t8 next exit => (bif decide (t8 < t7) then (bindO (nth t0 t8) fun x => (bindO (fnDlogrec_Check_1 (x.fst, x.snd, o0_0, o0_1)) fun r => (bif r then (exit (Sum.inl (t8))) else (next (IntKind.wrap IntKind.i64 (t8 + (1 : Int))))))) else (exit (Sum.inr ())))
def stepDslices_IndexFunc_api_Sector_api_Sector_n0 (i : Islices_IndexFunc_api_Sector_api_Sector_n0) (v : Vslices_IndexFunc_api_Sector_api_Sector_n0) : Option (Vslices_IndexFunc_api_Sector_api_Sector_n0 ⊕ Yslices_IndexFunc_api_Sector_api_Sector_n0) := stepslices_IndexFunc_api_Sector_api_Sector_n0 i v (fun v => some (.inl v)) (fun y => some (.inr y))
theorem stepslices_IndexFunc_api_Sector_api_Sector_n0_nat (i : Islices_IndexFunc_api_Sector_api_Sector_n0) (v : Vslices_IndexFunc_api_Sector_api_Sector_n0) (next : Vslices_IndexFunc_api_Sector_api_Sector_n0 → Ans) (exit : Yslices_IndexFunc_api_Sector_api_Sector_n0 → Ans) : stepslices_IndexFunc_api_Sector_api_Sector_n0 i v next exit = bindO (stepDslices_IndexFunc_api_Sector_api_Sector_n0 i v) (Sum.elim next exit) := by
  obtain ⟨t0, t7, o0_0, o0_1⟩ := i
  obtain z := v
  simp only [stepDslices_IndexFunc_api_Sector_api_Sector_n0, stepslices_IndexFunc_api_Sector_api_Sector_n0, bindO_cond, bindO_assoc, bindO_none, bindO_pure, bindO_elim, bindO_unP, Sum.elim_inl, Sum.elim_inr]
theorem stepslices_IndexFunc_api_Sector_api_Sector_n0_ok (n : Nat) (i : Islices_IndexFunc_api_Sector_api_Sector_n0) (v : Vslices_IndexFunc_api_Sector_api_Sector_n0) (K : Ex → St → Ans) : codeI Try.tab envslices_IndexFunc_api_Sector_api_Sector noHint (codeD Try.tab envslices_IndexFunc_api_Sector_api_Sector noHint 0 64) (n+1) 19 annLslices_IndexFunc_api_Sector_api_Sector_n0 (.loop Lslices_IndexFunc_api_Sector_api_Sector_n0) (weakP 1 (exk [] [4] [(0, [])]) K) (Sslices_IndexFunc_api_Sector_api_Sector_n0 i v) = stepslices_IndexFunc_api_Sector_api_Sector_n0 i v (fun v' => codeI Try.tab envslices_IndexFunc_api_Sector_api_Sector noHint (codeD Try.tab envslices_IndexFunc_api_Sector_api_Sector noHint 0 64) n 19 annLslices_IndexFunc_api_Sector_api_Sector_n0 (.loop Lslices_IndexFunc_api_Sector_api_Sector_n0) (weakP 1 (exk [] [4] [(0, [])]) K) (Sslices_IndexFunc_api_Sector_api_Sector_n0 i v')) (fun y => outslices_IndexFunc_api_Sector_api_Sector_n0 i K y) := by kernel_rfl
theorem GNslices_IndexFunc_api_Sector_api_Sector_n0_ok : CSum Try.prog 19 (.loop Lslices_IndexFunc_api_Sector_api_Sector_n0) (sumL decslices_IndexFunc_api_Sector_api_Sector_n0 stepDslices_IndexFunc_api_Sector_api_Sector_n0 outslices_IndexFunc_api_Sector_api_Sector_n0) := csum_loop mixed tabOk envslices_IndexFunc_api_Sector_api_SectorOk 1 (exk [] [4] [(0, [])]) annLslices_IndexFunc_api_Sector_api_Sector_n0_ok decslices_IndexFunc_api_Sector_api_Sector_n0_ok stepslices_IndexFunc_api_Sector_api_Sector_n0_ok stepslices_IndexFunc_api_Sector_api_Sector_n0_nat
noncomputable def Gslices_IndexFunc_api_Sector_api_Sector_n0 : (Ex → St → Ans) → St → Ans := (sumL decslices_IndexFunc_api_Sector_api_Sector_n0 stepDslices_IndexFunc_api_Sector_api_Sector_n0 outslices_IndexFunc_api_Sector_api_Sector_n0)
theorem Gslices_IndexFunc_api_Sector_api_Sector_n0_ok : CSum Try.prog 19 (.loop Lslices_IndexFunc_api_Sector_api_Sector_n0) Gslices_IndexFunc_api_Sector_api_Sector_n0 := GNslices_IndexFunc_api_Sector_api_Sector_n0_ok
noncomputable def annslices_IndexFunc_api_Sector_api_Sector : Ann := (.seq .none (.seq (.seq .none (.block (.cut 1 [0, 1, 7, 8] Gslices_IndexFunc_api_Sector_api_Sector_n0))) .none))
theorem annslices_IndexFunc_api_Sector_api_Sector_ok : AnnOk Try.prog 19 bslices_IndexFunc_api_Sector_api_Sector annslices_IndexFunc_api_Sector_api_Sector := ⟨(annOk_none _ _ _), ⟨⟨(annOk_none _ _ _), Gslices_IndexFunc_api_Sector_api_Sector_n0_ok⟩, (annOk_none _ _ _)⟩⟩
abbrev Aslices_IndexFunc_api_Sector_api_Sector := (List (Int × List UInt8)) × (Int) × (List UInt8)
abbrev Yslices_IndexFunc_api_Sector_api_Sector := (Int)
def fnslices_IndexFunc_api_Sector_api_Sector {β : Type} : Aslices_IndexFunc_api_Sector_api_Sector → (Yslices_IndexFunc_api_Sector_api_Sector → Option β) → Option β := fun (a0, o0_0, o0_1) exit => (bindO (loopD (stepDslices_IndexFunc_api_Sector_api_Sector_n0 (a0, (↑(List.length a0) : Int), o0_0, o0_1)) FUEL ((0 : Int))) (Sum.elim (fun t4 => (exit (t4))) (fun _ => (exit ((-1 : Int))))))
def fnDslices_IndexFunc_api_Sector_api_Sector (a : Aslices_IndexFunc_api_Sector_api_Sector) : Option Yslices_IndexFunc_api_Sector_api_Sector := fnslices_IndexFunc_api_Sector_api_Sector a some
theorem fnslices_IndexFunc_api_Sector_api_Sector_nat (a : Aslices_IndexFunc_api_Sector_api_Sector) (k : Yslices_IndexFunc_api_Sector_api_Sector → Ans) : fnslices_IndexFunc_api_Sector_api_Sector a k = bindO (fnDslices_IndexFunc_api_Sector_api_Sector a) k := by
  obtain ⟨a0, o0_0, o0_1⟩ := a
  simp only [fnDslices_IndexFunc_api_Sector_api_Sector, fnslices_IndexFunc_api_Sector_api_Sector, bindO_cond, bindO_assoc, bindO_none, bindO_pure, bindO_elim, bindO_unP]
def argsslices_IndexFunc_api_Sector_api_Sector : Aslices_IndexFunc_api_Sector_api_Sector → List AV × List AE.Obj := fun (a0, o0_0, o0_1) => ([AV.ro (Ty.st (Ty.pair (Ty.int IntKind.i64) Ty.str)) a0, AV.fn (Fn.func 40) [] [AV.ptr 0 0]], [AE.Obj.cells [AV.int IntKind.i64 o0_0, AV.str o0_1]])
def decAslices_IndexFunc_api_Sector_api_Sector (l : List AV) (H : List AE.Obj) : Option Aslices_IndexFunc_api_Sector_api_Sector := match l, H with
  | [AV.ro (Ty.st (Ty.pair (Ty.int IntKind.i64) Ty.str)) a0, AV.fn (Fn.func 40) [] [AV.ptr 0 0]], [AE.Obj.cells [AV.int IntKind.i64 o0_0, AV.str o0_1]] => some (a0, o0_0, o0_1)
  | _, _ => none
theorem decAslices_IndexFunc_api_Sector_api_Sector_ok (l : List AV) (H : List AE.Obj) (a : Aslices_IndexFunc_api_Sector_api_Sector) (h : decAslices_IndexFunc_api_Sector_api_Sector l H = some a) : (l, H) = argsslices_IndexFunc_api_Sector_api_Sector a := by
  unfold decAslices_IndexFunc_api_Sector_api_Sector at h
  split at h
  · cases h; rfl
  · cases h
def outslices_IndexFunc_api_Sector_api_Sector : Aslices_IndexFunc_api_Sector_api_Sector → (AV → List AE.Obj → Ans) → Yslices_IndexFunc_api_Sector_api_Sector → Ans := fun (a0, o0_0, o0_1) K => fun r_y => K (AV.int IntKind.i64 r_y) [AE.Obj.cells [AV.int IntKind.i64 o0_0, AV.str o0_1]]
theorem fnslices_IndexFunc_api_Sector_api_Sector_ok (a : Aslices_IndexFunc_api_Sector_api_Sector) (K : AV → List AE.Obj → Ans) : fnE Try.tab envslices_IndexFunc_api_Sector_api_Sector noHint 0 70 51 Try.f51.ntmps Try.f51.results.toList annslices_IndexFunc_api_Sector_api_Sector bslices_IndexFunc_api_Sector_api_Sector (argsslices_IndexFunc_api_Sector_api_Sector a).1 (argsslices_IndexFunc_api_Sector_api_Sector a).2 K = fnslices_IndexFunc_api_Sector_api_Sector a (outslices_IndexFunc_api_Sector_api_Sector a K) := by kernel_rfl
def vFslices_IndexFunc_api_Sector_api_Sector (a : Aslices_IndexFunc_api_Sector_api_Sector) (K : AV → List AE.Obj → Ans) : Ans := bindO (fnDslices_IndexFunc_api_Sector_api_Sector a) fun y => outslices_IndexFunc_api_Sector_api_Sector a K y
def Fslices_IndexFunc_api_Sector_api_Sector : List AV → List AE.Obj → (AV → List AE.Obj → Ans) → Ans := fun l H K => bindO (decAslices_IndexFunc_api_Sector_api_Sector l H) fun a => vFslices_IndexFunc_api_Sector_api_Sector a K
theorem Fslices_IndexFunc_api_Sector_api_Sector_ok : FuncOk Try.prog 51 Fslices_IndexFunc_api_Sector_api_Sector := func_mkD (hint := noHint) (d := 0) (n := 70) mixed tabOk envslices_IndexFunc_api_Sector_api_SectorOk Try.func51 (bodySome (by kernel_rfl)) (by decide +kernel) annslices_IndexFunc_api_Sector_api_Sector_ok decAslices_IndexFunc_api_Sector_api_Sector_ok fnslices_IndexFunc_api_Sector_api_Sector_ok fnslices_IndexFunc_api_Sector_api_Sector_nat
--@ slices_ContainsFunc_api_Sector_api_Sector
noncomputable def envslices_ContainsFunc_api_Sector_api_Sector : Env := [(51, .func Fslices_IndexFunc_api_Sector_api_Sector)]
theorem envslices_ContainsFunc_api_Sector_api_SectorOk : EnvOk Try.prog envslices_ContainsFunc_api_Sector_api_Sector := EnvOk.cons Fslices_IndexFunc_api_Sector_api_Sector_ok (EnvOk.nil)
noncomputable def bslices_ContainsFunc_api_Sector_api_Sector : Code := Try.f39.body.getD .skip
noncomputable def annslices_ContainsFunc_api_Sector_api_Sector : Ann := .none
theorem annslices_ContainsFunc_api_Sector_api_Sector_ok : AnnOk Try.prog 9 bslices_ContainsFunc_api_Sector_api_Sector annslices_ContainsFunc_api_Sector_api_Sector := (annOk_none _ _ _)
abbrev Aslices_ContainsFunc_api_Sector_api_Sector := (List (Int × List UInt8)) × (Int) × (List UInt8)
abbrev Yslices_ContainsFunc_api_Sector_api_Sector := (Bool)
def fnslices_ContainsFunc_api_Sector_api_Sector {β : Type} : Aslices_ContainsFunc_api_Sector_api_Sector → (Yslices_ContainsFunc_api_Sector_api_Sector → Option β) → Option β := fun (a0, o0_0, o0_1) exit => (bindO (fnDslices_IndexFunc_api_Sector_api_Sector (a0, o0_0, o0_1)) fun r => (exit (decide (r ≥ (0 : Int)))))
def fnDslices_ContainsFunc_api_Sector_api_Sector (a : Aslices_ContainsFunc_api_Sector_api_Sector) : Option Yslices_ContainsFunc_api_Sector_api_Sector := fnslices_ContainsFunc_api_Sector_api_Sector a some
theorem fnslices_ContainsFunc_api_Sector_api_Sector_nat (a : Aslices_ContainsFunc_api_Sector_api_Sector) (k : Yslices_ContainsFunc_api_Sector_api_Sector → Ans) : fnslices_ContainsFunc_api_Sector_api_Sector a k = bindO (fnDslices_ContainsFunc_api_Sector_api_Sector a) k := by
  obtain ⟨a0, o0_0, o0_1⟩ := a
  simp only [fnDslices_ContainsFunc_api_Sector_api_Sector, fnslices_ContainsFunc_api_Sector_api_Sector, bindO_cond, bindO_assoc, bindO_none, bindO_pure, bindO_elim, bindO_unP]
def argsslices_ContainsFunc_api_Sector_api_Sector : Aslices_ContainsFunc_api_Sector_api_Sector → List AV × List AE.Obj := fun (a0, o0_0, o0_1) => ([AV.ro (Ty.st (Ty.pair (Ty.int IntKind.i64) Ty.str)) a0, AV.fn (Fn.func 40) [] [AV.ptr 0 0]], [AE.Obj.cells [AV.int IntKind.i64 o0_0, AV.str o0_1]])
def decAslices_ContainsFunc_api_Sector_api_Sector (l : List AV) (H : List AE.Obj) : Option Aslices_ContainsFunc_api_Sector_api_Sector := match l, H with
  | [AV.ro (Ty.st (Ty.pair (Ty.int IntKind.i64) Ty.str)) a0, AV.fn (Fn.func 40) [] [AV.ptr 0 0]], [AE.Obj.cells [AV.int IntKind.i64 o0_0, AV.str o0_1]] => some (a0, o0_0, o0_1)
  | _, _ => none
theorem decAslices_ContainsFunc_api_Sector_api_Sector_ok (l : List AV) (H : List AE.Obj) (a : Aslices_ContainsFunc_api_Sector_api_Sector) (h : decAslices_ContainsFunc_api_Sector_api_Sector l H = some a) : (l, H) = argsslices_ContainsFunc_api_Sector_api_Sector a := by
  unfold decAslices_ContainsFunc_api_Sector_api_Sector at h
  split at h
  · cases h; rfl
  · cases h
def outslices_ContainsFunc_api_Sector_api_Sector : Aslices_ContainsFunc_api_Sector_api_Sector → (AV → List AE.Obj → Ans) → Yslices_ContainsFunc_api_Sector_api_Sector → Ans := fun (a0, o0_0, o0_1) K => fun r_y => K (AV.bool r_y) [AE.Obj.cells [AV.int IntKind.i64 o0_0, AV.str o0_1]]
theorem fnslices_ContainsFunc_api_Sector_api_Sector_ok (a : Aslices_ContainsFunc_api_Sector_api_Sector) (K : AV → List AE.Obj → Ans) : fnE Try.tab envslices_ContainsFunc_api_Sector_api_Sector noHint 0 70 39 Try.f39.ntmps Try.f39.results.toList annslices_ContainsFunc_api_Sector_api_Sector bslices_ContainsFunc_api_Sector_api_Sector (argsslices_ContainsFunc_api_Sector_api_Sector a).1 (argsslices_ContainsFunc_api_Sector_api_Sector a).2 K = fnslices_ContainsFunc_api_Sector_api_Sector a (outslices_ContainsFunc_api_Sector_api_Sector a K) := by kernel_rfl
def vFslices_ContainsFunc_api_Sector_api_Sector (a : Aslices_ContainsFunc_api_Sector_api_Sector) (K : AV → List AE.Obj → Ans) : Ans := bindO (fnDslices_ContainsFunc_api_Sector_api_Sector a) fun y => outslices_ContainsFunc_api_Sector_api_Sector a K y
def Fslices_ContainsFunc_api_Sector_api_Sector : List AV → List AE.Obj → (AV → List AE.Obj → Ans) → Ans := fun l H K => bindO (decAslices_ContainsFunc_api_Sector_api_Sector l H) fun a => vFslices_ContainsFunc_api_Sector_api_Sector a K
theorem Fslices_ContainsFunc_api_Sector_api_Sector_ok : FuncOk Try.prog 39 Fslices_ContainsFunc_api_Sector_api_Sector := func_mkD (hint := noHint) (d := 0) (n := 70) mixed tabOk envslices_ContainsFunc_api_Sector_api_SectorOk Try.func39 (bodySome (by kernel_rfl)) (by decide +kernel) annslices_ContainsFunc_api_Sector_api_Sector_ok decAslices_ContainsFunc_api_Sector_api_Sector_ok fnslices_ContainsFunc_api_Sector_api_Sector_ok fnslices_ContainsFunc_api_Sector_api_Sector_nat
--@ logrec_Check
noncomputable def envlogrec_Check : Env := [(39, .func Fslices_ContainsFunc_api_Sector_api_Sector)]
theorem envlogrec_CheckOk : EnvOk Try.prog envlogrec_Check := EnvOk.cons Fslices_ContainsFunc_api_Sector_api_Sector_ok (EnvOk.nil)
noncomputable def blogrec_Check : Code := Try.f22.body.getD .skip
noncomputable def Llogrec_Check_n2 : Code := codeAt [1, 1, 0, 1, 0, 0, 1, 1, 0, 0, 1, 0, 0] blogrec_Check
noncomputable def annLlogrec_Check_n2 : Ann := .none
theorem annLlogrec_Check_n2_ok : AnnOk Try.prog 41 Llogrec_Check_n2 annLlogrec_Check_n2 := (annOk_none _ _ _)
abbrev Ilogrec_Check_n2 := (List (Int × List UInt8)) × (Int) × (List (Int × List UInt8)) × (Int) × (Int) × (Int) × (List UInt8)
abbrev Ylogrec_Check_n2 := (Bool)
def Slogrec_Check_n2 : Ilogrec_Check_n2 → St := fun (t0, t3, t13, t14, t15, o0_0, o0_1) => { env := [(0, AV.ro (Ty.st (Ty.pair (Ty.int IntKind.i64) Ty.str)) t0), (3, AV.int IntKind.i64 t3), (4, AV.ptr 0 0), (13, AV.ro (Ty.st (Ty.pair (Ty.int IntKind.i64) Ty.str)) t13), (14, AV.int IntKind.i64 t14), (15, AV.int IntKind.i64 t15)], stk := [[]], H := [AE.Obj.cells [AV.int IntKind.i64 o0_0, AV.str o0_1]], blk := 90115 }
def declogrec_Check_n2 (s : St) : Option Ilogrec_Check_n2 := match s with
  | { env := [(0, AV.ro (Ty.st (Ty.pair (Ty.int IntKind.i64) Ty.str)) t0), (3, AV.int IntKind.i64 t3), (4, AV.ptr 0 0), (13, AV.ro (Ty.st (Ty.pair (Ty.int IntKind.i64) Ty.str)) t13), (14, AV.int IntKind.i64 t14), (15, AV.int IntKind.i64 t15)], stk := [[]], H := [AE.Obj.cells [AV.int IntKind.i64 o0_0, AV.str o0_1]], blk := 90115 } => some (t0, t3, t13, t14, t15, o0_0, o0_1)
  | _ => none
theorem declogrec_Check_n2_ok (s : St) (x : Ilogrec_Check_n2) (h : declogrec_Check_n2 s = some x) : s = Slogrec_Check_n2 x := by
  unfold declogrec_Check_n2 at h
  split at h
  · cases h; rfl
  · cases h
def outlogrec_Check_n2 : Ilogrec_Check_n2 → (Ex → St → Ans) → Ylogrec_Check_n2 → Ans := fun (t0, t3, t13, t14, t15, o0_0, o0_1) K => fun t20_y => K (Ex.norm) { env := [(0, AV.ro (Ty.st (Ty.pair (Ty.int IntKind.i64) Ty.str)) t0), (3, AV.int IntKind.i64 t3), (4, AV.ptr 0 0), (13, AV.ro (Ty.st (Ty.pair (Ty.int IntKind.i64) Ty.str)) t13), (14, AV.int IntKind.i64 t14), (15, AV.int IntKind.i64 t15), (20, AV.bool t20_y)], stk := [[]], H := [AE.Obj.cells [AV.int IntKind.i64 o0_0, AV.str o0_1]], blk := 90115 }
def nodelogrec_Check_n2 {β : Type} : Ilogrec_Check_n2 → (Ylogrec_Check_n2 → Option β) → Option β := fun (t0, t3, t13, t14, t15, o0_0, o0_1) exit => (bif decide (o0_0 < (0 : Int)) then (exit (true)) else (exit (decide (o0_0 ≥ (1000 : Int)))))
def nodeDlogrec_Check_n2 (i : Ilogrec_Check_n2) : Option Ylogrec_Check_n2 := nodelogrec_Check_n2 i some
theorem nodelogrec_Check_n2_nat (i : Ilogrec_Check_n2) (k : Ylogrec_Check_n2 → Ans) : nodelogrec_Check_n2 i k = bindO (nodeDlogrec_Check_n2 i) k := by
  obtain ⟨t0, t3, t13, t14, t15, o0_0, o0_1⟩ := i
  simp only [nodeDlogrec_Check_n2, nodelogrec_Check_n2, bindO_cond, bindO_assoc, bindO_none, bindO_pure, bindO_elim, bindO_unP]
theorem nodelogrec_Check_n2_ok (i : Ilogrec_Check_n2) (K : Ex → St → Ans) : codeI Try.tab envlogrec_Check noHint (codeD Try.tab envlogrec_Check noHint 0 64) 70 41 annLlogrec_Check_n2 Llogrec_Check_n2 (weakP 0 (exk [0, 3, 4, 13, 14, 15, 20] [2] []) K) (Slogrec_Check_n2 i) = nodelogrec_Check_n2 i (outlogrec_Check_n2 i K) := by kernel_rfl
theorem GNlogrec_Check_n2_ok : CSum Try.prog 41 Llogrec_Check_n2 (sumN declogrec_Check_n2 nodeDlogrec_Check_n2 outlogrec_Check_n2) := csum_node mixed tabOk envlogrec_CheckOk 0 (exk [0, 3, 4, 13, 14, 15, 20] [2] []) annLlogrec_Check_n2_ok declogrec_Check_n2_ok nodelogrec_Check_n2_ok nodelogrec_Check_n2_nat
noncomputable def Glogrec_Check_n2 : (Ex → St → Ans) → St → Ans := (sumN declogrec_Check_n2 nodeDlogrec_Check_n2 outlogrec_Check_n2)
theorem Glogrec_Check_n2_ok : CSum Try.prog 41 Llogrec_Check_n2 Glogrec_Check_n2 := GNlogrec_Check_n2_ok
noncomputable def Llogrec_Check_n1 : Code := codeAt [1, 1, 0, 1, 0, 0, 1, 1, 0] blogrec_Check
noncomputable def annLlogrec_Check_n1 : Ann := (.block (.seq .none (.block (.seq (.cut 0 [0, 3, 4, 13, 14, 15] Glogrec_Check_n2) .none))))
theorem annLlogrec_Check_n1_ok : AnnOk Try.prog 41 Llogrec_Check_n1 annLlogrec_Check_n1 := ⟨(annOk_none _ _ _), ⟨Glogrec_Check_n2_ok, (annOk_none _ _ _)⟩⟩
abbrev Ilogrec_Check_n1 := (List (Int × List UInt8)) × (List (Int × List UInt8)) × (Int) × (Int)
abbrev Ylogrec_Check_n1 := ((Int)) ⊕ (Unit)
def Slogrec_Check_n1 : Ilogrec_Check_n1 → St := fun (t0, t13, t14, t15) => { env := [(0, AV.ro (Ty.st (Ty.pair (Ty.int IntKind.i64) Ty.str)) t0), (13, AV.ro (Ty.st (Ty.pair (Ty.int IntKind.i64) Ty.str)) t13), (14, AV.int IntKind.i64 t14), (15, AV.int IntKind.i64 t15)], stk := [[]], H := [], blk := 90113 }
def declogrec_Check_n1 (s : St) : Option Ilogrec_Check_n1 := match s with
  | { env := [(0, AV.ro (Ty.st (Ty.pair (Ty.int IntKind.i64) Ty.str)) t0), (13, AV.ro (Ty.st (Ty.pair (Ty.int IntKind.i64) Ty.str)) t13), (14, AV.int IntKind.i64 t14), (15, AV.int IntKind.i64 t15)], stk := [[]], H := [], blk := 90113 } => some (t0, t13, t14, t15)
  | _ => none
theorem declogrec_Check_n1_ok (s : St) (x : Ilogrec_Check_n1) (h : declogrec_Check_n1 s = some x) : s = Slogrec_Check_n1 x := by
  unfold declogrec_Check_n1 at h
  split at h
  · cases h; rfl
  · cases h
def outlogrec_Check_n1 : Ilogrec_Check_n1 → (Ex → St → Ans) → Ylogrec_Check_n1 → Ans := fun (t0, t13, t14, t15) K => (Sum.elim (fun t2_y => K (Ex.ret) { env := [(2, AV.int IntKind.i64 t2_y)], stk := [[]], H := [], blk := 90115 }) (fun _ => K (Ex.norm) { env := [(0, AV.ro (Ty.st (Ty.pair (Ty.int IntKind.i64) Ty.str)) t0), (13, AV.ro (Ty.st (Ty.pair (Ty.int IntKind.i64) Ty.str)) t13), (14, AV.int IntKind.i64 t14), (15, AV.int IntKind.i64 t15)], stk := [[]], H := [], blk := 90115 }))
def nodelogrec_Check_n1 {β : Type} : Ilogrec_Check_n1 → (Ylogrec_Check_n1 → Option β) → Option β := fun (t0, t13, t14, t15) exit => (bindO (nth t13 t15) fun x => (bindO (nodeDlogrec_Check_n2 (t0, t15, t13, t14, t15, x.fst, x.snd)) fun t20 => (bif t20 then (exit (Sum.inl ((3 : Int)))) else (bif (↑(List.length x.snd) : Int) != (64 : Int) then (exit (Sum.inl ((12 : Int)))) else (bif inR t15 (List.length t0 + (1 : Nat)) then (bindO (fnDslices_ContainsFunc_api_Sector_api_Sector (List.take (Int.toNat t15) t0, x.fst, x.snd)) fun r => (bif r then (exit (Sum.inl ((9 : Int)))) else (exit (Sum.inr ())))) else none)))))
def nodeDlogrec_Check_n1 (i : Ilogrec_Check_n1) : Option Ylogrec_Check_n1 := nodelogrec_Check_n1 i some
theorem nodelogrec_Check_n1_nat (i : Ilogrec_Check_n1) (k : Ylogrec_Check_n1 → Ans) : nodelogrec_Check_n1 i k = bindO (nodeDlogrec_Check_n1 i) k := by
  obtain ⟨t0, t13, t14, t15⟩ := i
  simp only [nodeDlogrec_Check_n1, nodelogrec_Check_n1, bindO_cond, bindO_assoc, bindO_none, bindO_pure, bindO_elim, bindO_unP]
theorem nodelogrec_Check_n1_ok (i : Ilogrec_Check_n1) (K : Ex → St → Ans) : codeI Try.tab envlogrec_Check noHint (codeD Try.tab envlogrec_Check noHint 0 64) 70 41 annLlogrec_Check_n1 Llogrec_Check_n1 (weakP 0 (exk [0, 13, 14, 15] [2] []) K) (Slogrec_Check_n1 i) = nodelogrec_Check_n1 i (outlogrec_Check_n1 i K) := by kernel_rfl
theorem GNlogrec_Check_n1_ok : CSum Try.prog 41 Llogrec_Check_n1 (sumN declogrec_Check_n1 nodeDlogrec_Check_n1 outlogrec_Check_n1) := csum_node mixed tabOk envlogrec_CheckOk 0 (exk [0, 13, 14, 15] [2] []) annLlogrec_Check_n1_ok declogrec_Check_n1_ok nodelogrec_Check_n1_ok nodelogrec_Check_n1_nat
noncomputable def Glogrec_Check_n1 : (Ex → St → Ans) → St → Ans := (sumN declogrec_Check_n1 nodeDlogrec_Check_n1 outlogrec_Check_n1)
theorem Glogrec_Check_n1_ok : CSum Try.prog 41 Llogrec_Check_n1 Glogrec_Check_n1 := GNlogrec_Check_n1_ok
noncomputable def Llogrec_Check_n0 : Code := codeAt [1, 1, 0, 1, 0, 0] blogrec_Check
noncomputable def annLlogrec_Check_n0 : Ann := .at 0 [0, 13, 14, 15] (.loop (.seq .none (.seq .none (.seq (.cut 0 [0, 13, 14, 15] Glogrec_Check_n1) .none))))
theorem annLlogrec_Check_n0_ok : AnnOk Try.prog 41 (.loop Llogrec_Check_n0) annLlogrec_Check_n0 := annOk_at ⟨(annOk_none _ _ _), ⟨(annOk_none _ _ _), ⟨Glogrec_Check_n1_ok, (annOk_none _ _ _)⟩⟩⟩
abbrev Ilogrec_Check_n0 := (List (Int × List UInt8)) × (List (Int × List UInt8)) × (Int)
abbrev Ylogrec_Check_n0 := ((Int)) ⊕ (Unit)
abbrev Vlogrec_Check_n0 := (Int)
def Slogrec_Check_n0 : Ilogrec_Check_n0 → Vlogrec_Check_n0 → St := fun (t0, t13, t14) t15 => { env := [(0, AV.ro (Ty.st (Ty.pair (Ty.int IntKind.i64) Ty.str)) t0), (13, AV.ro (Ty.st (Ty.pair (Ty.int IntKind.i64) Ty.str)) t13), (14, AV.int IntKind.i64 t14), (15, AV.int IntKind.i64 t15)], stk := [[]], H := [], blk := 90113 }
def declogrec_Check_n0 (s : St) : Option (Ilogrec_Check_n0 × Vlogrec_Check_n0) := match s with
  | { env := [(0, AV.ro (Ty.st (Ty.pair (Ty.int IntKind.i64) Ty.str)) t0), (13, AV.ro (Ty.st (Ty.pair (Ty.int IntKind.i64) Ty.str)) t13), (14, AV.int IntKind.i64 t14), (15, AV.int IntKind.i64 t15)], stk := [[]], H := [], blk := 90113 } => some ((t0, t13, t14), t15)
  | _ => none
theorem declogrec_Check_n0_ok (s : St) (x : Ilogrec_Check_n0 × Vlogrec_Check_n0) (h : declogrec_Check_n0 s = some x) : s = Slogrec_Check_n0 x.1 x.2 := by
  unfold declogrec_Check_n0 at h
  split at h
  · cases h; rfl
  · cases h
def outlogrec_Check_n0 : Ilogrec_Check_n0 → (Ex → St → Ans) → Ylogrec_Check_n0 → Ans := fun (t0, t13, t14) K => (Sum.elim (fun t2_y => K (Ex.ret) { env := [(2, AV.int IntKind.i64 t2_y)], stk := [[]], H := [], blk := 90115 }) (fun _ => K (Ex.exit 1) { env := [], stk := [[]], H := [], blk := 90113 }))
def steplogrec_Check_n0 {β : Type} : Ilogrec_Check_n0 → Vlogrec_Check_n0 → (Vlogrec_Check_n0 → Option β) → (Ylogrec_Check_n0 → Option β) → Option β := fun (t0, t13, t14) t15 next exit => (bif decide (t15 < t14) then (bindO (nodeDlogrec_Check_n1 (t0, t13, t14, t15)) (Sum.elim (fun t2 => (exit (Sum.inl (t2)))) (fun _ => (next (IntKind.wrap IntKind.i64 (t15 + (1 : Int))))))) else (exit (Sum.inr ())))
def stepDlogrec_Check_n0 (i : Ilogrec_Check_n0) (v : Vlogrec_Check_n0) : Option (Vlogrec_Check_n0 ⊕ Ylogrec_Check_n0) := steplogrec_Check_n0 i v (fun v => some (.inl v)) (fun y => some (.inr y))
theorem steplogrec_Check_n0_nat (i : Ilogrec_Check_n0) (v : Vlogrec_Check_n0) (next : Vlogrec_Check_n0 → Ans) (exit : Ylogrec_Check_n0 → Ans) : steplogrec_Check_n0 i v next exit = bindO (stepDlogrec_Check_n0 i v) (Sum.elim next exit) := by
  obtain ⟨t0, t13, t14⟩ := i
  obtain z := v
  simp only [stepDlogrec_Check_n0, steplogrec_Check_n0, bindO_cond, bindO_assoc, bindO_none, bindO_pure, bindO_elim, bindO_unP, Sum.elim_inl, Sum.elim_inr]
theorem steplogrec_Check_n0_ok (n : Nat) (i : Ilogrec_Check_n0) (v : Vlogrec_Check_n0) (K : Ex → St → Ans) : codeI Try.tab envlogrec_Check noHint (codeD Try.tab envlogrec_Check noHint 0 64) (n+1) 41 annLlogrec_Check_n0 (.loop Llogrec_Check_n0) (weakP 0 (exk [] [2] [(1, [])]) K) (Slogrec_Check_n0 i v) = steplogrec_Check_n0 i v (fun v' => codeI Try.tab envlogrec_Check noHint (codeD Try.tab envlogrec_Check noHint 0 64) n 41 annLlogrec_Check_n0 (.loop Llogrec_Check_n0) (weakP 0 (exk [] [2] [(1, [])]) K) (Slogrec_Check_n0 i v')) (fun y => outlogrec_Check_n0 i K y) := by kernel_rfl
theorem GNlogrec_Check_n0_ok : CSum Try.prog 41 (.loop Llogrec_Check_n0) (sumL declogrec_Check_n0 stepDlogrec_Check_n0 outlogrec_Check_n0) := csum_loop mixed tabOk envlogrec_CheckOk 0 (exk [] [2] [(1, [])]) annLlogrec_Check_n0_ok declogrec_Check_n0_ok steplogrec_Check_n0_ok steplogrec_Check_n0_nat
noncomputable def Glogrec_Check_n0 : (Ex → St → Ans) → St → Ans := (sumL declogrec_Check_n0 stepDlogrec_Check_n0 outlogrec_Check_n0)
theorem Glogrec_Check_n0_ok : CSum Try.prog 41 (.loop Llogrec_Check_n0) Glogrec_Check_n0 := GNlogrec_Check_n0_ok
noncomputable def annlogrec_Check : Ann := (.seq .none (.seq .none (.seq (.seq .none (.block (.cut 0 [0, 13, 14, 15] Glogrec_Check_n0))) .none)))
theorem annlogrec_Check_ok : AnnOk Try.prog 41 blogrec_Check annlogrec_Check := ⟨(annOk_none _ _ _), ⟨(annOk_none _ _ _), ⟨⟨(annOk_none _ _ _), Glogrec_Check_n0_ok⟩, (annOk_none _ _ _)⟩⟩⟩
abbrev Alogrec_Check := (List (Int × List UInt8))
abbrev Ylogrec_Check := (Int)
def fnlogrec_Check {β : Type} : Alogrec_Check → (Ylogrec_Check → Option β) → Option β := fun a0 exit => (bif (↑(List.length a0) : Int) == (0 : Int) then (exit ((8 : Int))) else (bif decide ((↑(List.length a0) : Int) > (16 : Int)) then (exit ((6 : Int))) else (bindO (loopD (stepDlogrec_Check_n0 (a0, a0, (↑(List.length a0) : Int))) FUEL ((0 : Int))) (Sum.elim (fun t2 => (exit (t2))) (fun _ => (exit ((0 : Int))))))))
def fnDlogrec_Check (a : Alogrec_Check) : Option Ylogrec_Check := fnlogrec_Check a some
theorem fnlogrec_Check_nat (a : Alogrec_Check) (k : Ylogrec_Check → Ans) : fnlogrec_Check a k = bindO (fnDlogrec_Check a) k := by
  obtain z := a
  simp only [fnDlogrec_Check, fnlogrec_Check, bindO_cond, bindO_assoc, bindO_none, bindO_pure, bindO_elim, bindO_unP]
def argslogrec_Check : Alogrec_Check → List AV := fun a0 => [AV.ro (Ty.st (Ty.pair (Ty.int IntKind.i64) Ty.str)) a0]
def decAlogrec_Check (l : List AV) : Option Alogrec_Check := match l with
  | [AV.ro (Ty.st (Ty.pair (Ty.int IntKind.i64) Ty.str)) a0] => some (a0)
  | _ => none
theorem decAlogrec_Check_ok (l : List AV) (a : Alogrec_Check) (h : decAlogrec_Check l = some a) : l = argslogrec_Check a := by
  unfold decAlogrec_Check at h
  split at h
  · cases h; rfl
  · cases h
def rendlogrec_Check : Alogrec_Check → Ylogrec_Check → AV := fun a0 => fun r_y => AV.int IntKind.i64 r_y
theorem rendlogrec_Check_ok : ∀ (a : Alogrec_Check) (y : Ylogrec_Check), (rendlogrec_Check a y).closed1 = true := by
  rintro z y <;> first | rfl | exact Empty.elim y
theorem fnlogrec_Check_ok (a : Alogrec_Check) : fnE Try.tab envlogrec_Check noHint 0 70 22 Try.f22.ntmps Try.f22.results.toList annlogrec_Check blogrec_Check (argslogrec_Check a) [] (fun v _ => some (v, [])) = fnlogrec_Check a (fun y => some (rendlogrec_Check a y, [])) := by kernel_rfl
def vFlogrec_Check (a : Alogrec_Check) (K : AV → Ans) : Ans := bindO (fnDlogrec_Check a) fun y => K (rendlogrec_Check a y)
def Flogrec_Check : List AV → (AV → Ans) → Ans := fun l K => bindO (decAlogrec_Check l) fun a => vFlogrec_Check a K
theorem Flogrec_Check_ok : PureOk Try.prog 22 Flogrec_Check := pure_mkD (hint := noHint) (d := 0) (n := 70) mixed tabOk envlogrec_CheckOk Try.func22 (bodySome (by kernel_rfl)) (by decide +kernel) annlogrec_Check_ok decAlogrec_Check_ok fnlogrec_Check_ok fnlogrec_Check_nat rendlogrec_Check_ok
--@ field_width
noncomputable def envfield_width : Env := []
theorem envfield_widthOk : EnvOk Try.prog envfield_width := EnvOk.nil
noncomputable def bfield_width : Code := Try.f52.body.getD .skip
noncomputable def Lfield_width_n0 : Code := codeAt [1, 0] bfield_width
noncomputable def annLfield_width_n0 : Ann := .none
theorem annLfield_width_n0_ok : AnnOk Try.prog 9 Lfield_width_n0 annLfield_width_n0 := (annOk_none _ _ _)
abbrev Ifield_width_n0 := (Int)
abbrev Yfield_width_n0 := (Bool)
def Sfield_width_n0 : Ifield_width_n0 → St := fun t0 => { env := [(0, AV.int IntKind.i64 t0)], stk := [[]], H := [], blk := 212992 }
def decfield_width_n0 (s : St) : Option Ifield_width_n0 := match s with
  | { env := [(0, AV.int IntKind.i64 t0)], stk := [[]], H := [], blk := 212992 } => some (t0)
  | _ => none
theorem decfield_width_n0_ok (s : St) (x : Ifield_width_n0) (h : decfield_width_n0 s = some x) : s = Sfield_width_n0 x := by
  unfold decfield_width_n0 at h
  split at h
  · cases h; rfl
  · cases h
def outfield_width_n0 : Ifield_width_n0 → (Ex → St → Ans) → Yfield_width_n0 → Ans := fun t0 K => fun t2_y => K (Ex.norm) { env := [(2, AV.bool t2_y)], stk := [[]], H := [], blk := 212992 }
def nodefield_width_n0 {β : Type} : Ifield_width_n0 → (Yfield_width_n0 → Option β) → Option β := fun t0 exit => (bif decide (t0 ≥ (1 : Int)) then (exit (decide (t0 ≤ (7 : Int)))) else (exit (false)))
def nodeDfield_width_n0 (i : Ifield_width_n0) : Option Yfield_width_n0 := nodefield_width_n0 i some
theorem nodefield_width_n0_nat (i : Ifield_width_n0) (k : Yfield_width_n0 → Ans) : nodefield_width_n0 i k = bindO (nodeDfield_width_n0 i) k := by
  obtain z := i
  simp only [nodeDfield_width_n0, nodefield_width_n0, bindO_cond, bindO_assoc, bindO_none, bindO_pure, bindO_elim, bindO_unP]
theorem nodefield_width_n0_ok (i : Ifield_width_n0) (K : Ex → St → Ans) : codeI Try.tab envfield_width noHint (codeD Try.tab envfield_width noHint 0 64) 70 9 annLfield_width_n0 Lfield_width_n0 (weakP 0 (exk [2] [2] []) K) (Sfield_width_n0 i) = nodefield_width_n0 i (outfield_width_n0 i K) := by kernel_rfl
theorem GNfield_width_n0_ok : CSum Try.prog 9 Lfield_width_n0 (sumN decfield_width_n0 nodeDfield_width_n0 outfield_width_n0) := csum_node mixed tabOk envfield_widthOk 0 (exk [2] [2] []) annLfield_width_n0_ok decfield_width_n0_ok nodefield_width_n0_ok nodefield_width_n0_nat
noncomputable def Gfield_width_n0 : (Ex → St → Ans) → St → Ans := (sumN decfield_width_n0 nodeDfield_width_n0 outfield_width_n0)
theorem Gfield_width_n0_ok : CSum Try.prog 9 Lfield_width_n0 Gfield_width_n0 := GNfield_width_n0_ok
noncomputable def annfield_width : Ann := (.seq .none (.seq (.cut 0 [0] Gfield_width_n0) .none))
theorem annfield_width_ok : AnnOk Try.prog 9 bfield_width annfield_width := ⟨(annOk_none _ _ _), ⟨Gfield_width_n0_ok, (annOk_none _ _ _)⟩⟩
abbrev Afield_width := (Int)
abbrev Yfield_width := (Bool)
def fnfield_width {β : Type} : Afield_width → (Yfield_width → Option β) → Option β := fun a0 exit => (bindO (nodeDfield_width_n0 (a0)) fun t2 => (exit (t2)))
def fnDfield_width (a : Afield_width) : Option Yfield_width := fnfield_width a some
theorem fnfield_width_nat (a : Afield_width) (k : Yfield_width → Ans) : fnfield_width a k = bindO (fnDfield_width a) k := by
  obtain z := a
  simp only [fnDfield_width, fnfield_width, bindO_cond, bindO_assoc, bindO_none, bindO_pure, bindO_elim, bindO_unP]
def argsfield_width : Afield_width → List AV := fun a0 => [AV.int IntKind.i64 a0]
def decAfield_width (l : List AV) : Option Afield_width := match l with
  | [AV.int IntKind.i64 a0] => some (a0)
  | _ => none
theorem decAfield_width_ok (l : List AV) (a : Afield_width) (h : decAfield_width l = some a) : l = argsfield_width a := by
  unfold decAfield_width at h
  split at h
  · cases h; rfl
  · cases h
def rendfield_width : Afield_width → Yfield_width → AV := fun a0 => fun r_y => AV.bool r_y
theorem rendfield_width_ok : ∀ (a : Afield_width) (y : Yfield_width), (rendfield_width a y).closed1 = true := by
  rintro z y <;> first | rfl | exact Empty.elim y
theorem fnfield_width_ok (a : Afield_width) : fnE Try.tab envfield_width noHint 0 70 52 Try.f52.ntmps Try.f52.results.toList annfield_width bfield_width (argsfield_width a) [] (fun v _ => some (v, [])) = fnfield_width a (fun y => some (rendfield_width a y, [])) := by kernel_rfl
def vFfield_width (a : Afield_width) (K : AV → Ans) : Ans := bindO (fnDfield_width a) fun y => K (rendfield_width a y)
def Ffield_width : List AV → (AV → Ans) → Ans := fun l K => bindO (decAfield_width l) fun a => vFfield_width a K
theorem Ffield_width_ok : PureOk Try.prog 52 Ffield_width := pure_mkD (hint := noHint) (d := 0) (n := 70) mixed tabOk envfield_widthOk Try.func52 (bodySome (by kernel_rfl)) (by decide +kernel) annfield_width_ok decAfield_width_ok fnfield_width_ok fnfield_width_nat rendfield_width_ok
--@ field_Fits
noncomputable def envfield_Fits : Env := [(52, .pure Ffield_width)]
theorem envfield_FitsOk : EnvOk Try.prog envfield_Fits := EnvOk.cons Ffield_width_ok (EnvOk.nil)
noncomputable def bfield_Fits : Code := Try.f41.body.getD .skip
noncomputable def Lfield_Fits_n0 : Code := codeAt [1, 0] bfield_Fits
noncomputable def annLfield_Fits_n0 : Ann := .none
theorem annLfield_Fits_n0_ok : AnnOk Try.prog 18 Lfield_Fits_n0 annLfield_Fits_n0 := (annOk_none _ _ _)
abbrev Ifield_Fits_n0 := (Int) × (Int)
abbrev Yfield_Fits_n0 := (Bool)
def Sfield_Fits_n0 : Ifield_Fits_n0 → St := fun (t0, t1) => { env := [(0, AV.int IntKind.i64 t0), (1, AV.int IntKind.i64 t1)], stk := [[]], H := [], blk := 167936 }
def decfield_Fits_n0 (s : St) : Option Ifield_Fits_n0 := match s with
  | { env := [(0, AV.int IntKind.i64 t0), (1, AV.int IntKind.i64 t1)], stk := [[]], H := [], blk := 167936 } => some (t0, t1)
  | _ => none
theorem decfield_Fits_n0_ok (s : St) (x : Ifield_Fits_n0) (h : decfield_Fits_n0 s = some x) : s = Sfield_Fits_n0 x := by
  unfold decfield_Fits_n0 at h
  split at h
  · cases h; rfl
  · cases h
def outfield_Fits_n0 : Ifield_Fits_n0 → (Ex → St → Ans) → Yfield_Fits_n0 → Ans := fun (t0, t1) K => fun t4_y => K (Ex.norm) { env := [(4, AV.bool t4_y)], stk := [[]], H := [], blk := 167936 }
def nodefield_Fits_n0 {β : Type} : Ifield_Fits_n0 → (Yfield_Fits_n0 → Option β) → Option β := fun (t0, t1) exit => (bindO (fnDfield_width (t1)) fun r => (bif r then (bif decide (t0 ≥ (0 : Int)) then (bif decide (IntKind.wrap IntKind.i64 ((8 : Int) * t1) < (0 : Int)) then none else (exit (Int.fdiv t0 ((2 : Int) ^ min (Int.toNat (IntKind.wrap IntKind.i64 ((8 : Int) * t1))) (64 : Nat)) == (0 : Int)))) else (exit (false))) else (exit (false))))
def nodeDfield_Fits_n0 (i : Ifield_Fits_n0) : Option Yfield_Fits_n0 := nodefield_Fits_n0 i some
theorem nodefield_Fits_n0_nat (i : Ifield_Fits_n0) (k : Yfield_Fits_n0 → Ans) : nodefield_Fits_n0 i k = bindO (nodeDfield_Fits_n0 i) k := by
  obtain ⟨t0, t1⟩ := i
  simp only [nodeDfield_Fits_n0, nodefield_Fits_n0, bindO_cond, bindO_assoc, bindO_none, bindO_pure, bindO_elim, bindO_unP]
theorem nodefield_Fits_n0_ok (i : Ifield_Fits_n0) (K : Ex → St → Ans) : codeI Try.tab envfield_Fits noHint (codeD Try.tab envfield_Fits noHint 0 64) 70 18 annLfield_Fits_n0 Lfield_Fits_n0 (weakP 0 (exk [4] [4] []) K) (Sfield_Fits_n0 i) = nodefield_Fits_n0 i (outfield_Fits_n0 i K) := by kernel_rfl
theorem GNfield_Fits_n0_ok : CSum Try.prog 18 Lfield_Fits_n0 (sumN decfield_Fits_n0 nodeDfield_Fits_n0 outfield_Fits_n0) := csum_node mixed tabOk envfield_FitsOk 0 (exk [4] [4] []) annLfield_Fits_n0_ok decfield_Fits_n0_ok nodefield_Fits_n0_ok nodefield_Fits_n0_nat
noncomputable def Gfield_Fits_n0 : (Ex → St → Ans) → St → Ans := (sumN decfield_Fits_n0 nodeDfield_Fits_n0 outfield_Fits_n0)
theorem Gfield_Fits_n0_ok : CSum Try.prog 18 Lfield_Fits_n0 Gfield_Fits_n0 := GNfield_Fits_n0_ok
noncomputable def annfield_Fits : Ann := (.seq .none (.seq (.cut 0 [0, 1] Gfield_Fits_n0) .none))
theorem annfield_Fits_ok : AnnOk Try.prog 18 bfield_Fits annfield_Fits := ⟨(annOk_none _ _ _), ⟨Gfield_Fits_n0_ok, (annOk_none _ _ _)⟩⟩
abbrev Afield_Fits := (Int) × (Int)
abbrev Yfield_Fits := (Bool)
def fnfield_Fits {β : Type} : Afield_Fits → (Yfield_Fits → Option β) → Option β := fun (a0, a1) exit => (bindO (nodeDfield_Fits_n0 (a0, a1)) fun t4 => (exit (t4)))
def fnDfield_Fits (a : Afield_Fits) : Option Yfield_Fits := fnfield_Fits a some
theorem fnfield_Fits_nat (a : Afield_Fits) (k : Yfield_Fits → Ans) : fnfield_Fits a k = bindO (fnDfield_Fits a) k := by
  obtain ⟨a0, a1⟩ := a
  simp only [fnDfield_Fits, fnfield_Fits, bindO_cond, bindO_assoc, bindO_none, bindO_pure, bindO_elim, bindO_unP]
def argsfield_Fits : Afield_Fits → List AV := fun (a0, a1) => [AV.int IntKind.i64 a0, AV.int IntKind.i64 a1]
def decAfield_Fits (l : List AV) : Option Afield_Fits := match l with
  | [AV.int IntKind.i64 a0, AV.int IntKind.i64 a1] => some (a0, a1)
  | _ => none
theorem decAfield_Fits_ok (l : List AV) (a : Afield_Fits) (h : decAfield_Fits l = some a) : l = argsfield_Fits a := by
  unfold decAfield_Fits at h
  split at h
  · cases h; rfl
  · cases h
def rendfield_Fits : Afield_Fits → Yfield_Fits → AV := fun (a0, a1) => fun r_y => AV.bool r_y
theorem rendfield_Fits_ok : ∀ (a : Afield_Fits) (y : Yfield_Fits), (rendfield_Fits a y).closed1 = true := by
  rintro ⟨a0, a1⟩ y <;> first | rfl | exact Empty.elim y
theorem fnfield_Fits_ok (a : Afield_Fits) : fnE Try.tab envfield_Fits noHint 0 70 41 Try.f41.ntmps Try.f41.results.toList annfield_Fits bfield_Fits (argsfield_Fits a) [] (fun v _ => some (v, [])) = fnfield_Fits a (fun y => some (rendfield_Fits a y, [])) := by kernel_rfl
def vFfield_Fits (a : Afield_Fits) (K : AV → Ans) : Ans := bindO (fnDfield_Fits a) fun y => K (rendfield_Fits a y)
def Ffield_Fits : List AV → (AV → Ans) → Ans := fun l K => bindO (decAfield_Fits l) fun a => vFfield_Fits a K
theorem Ffield_Fits_ok : PureOk Try.prog 41 Ffield_Fits := pure_mkD (hint := noHint) (d := 0) (n := 70) mixed tabOk envfield_FitsOk Try.func41 (bodySome (by kernel_rfl)) (by decide +kernel) annfield_Fits_ok decAfield_Fits_ok fnfield_Fits_ok fnfield_Fits_nat rendfield_Fits_ok
--@ field_Put
noncomputable def envfield_Put : Env := [(41, .pure Ffield_Fits)]
theorem envfield_PutOk : EnvOk Try.prog envfield_Put := EnvOk.cons Ffield_Fits_ok (EnvOk.nil)
noncomputable def bfield_Put : Code := Try.f23.body.getD .skip
noncomputable def Lfield_Put_n0 : Code := codeAt [1, 1, 1, 0, 1, 0, 0] bfield_Put
noncomputable def annLfield_Put_n0 : Ann := .at 0 [0, 1, 2, 7, 17, 18] (.loop .none)
theorem annLfield_Put_n0_ok : AnnOk Try.prog 37 (.loop Lfield_Put_n0) annLfield_Put_n0 := annOk_at (annOk_none _ _ _)
abbrev Ifield_Put_n0 := (List UInt8) × (Int) × (Int) × (Int)
abbrev Yfield_Put_n0 := (List Int)
abbrev Vfield_Put_n0 := (Int) × (List Int)
def Sfield_Put_n0 : Ifield_Put_n0 → Vfield_Put_n0 → St := fun (t0, t1, t2, t17) (t18, o0) => { env := [(0, AV.str t0), (1, AV.int IntKind.i64 t1), (2, AV.int IntKind.i64 t2), (7, AV.own 0), (17, AV.int IntKind.i64 t17), (18, AV.int IntKind.i64 t18)], stk := [[]], H := [Obj.arr (Ty.int IntKind.u8) o0], blk := 94208 }
def decfield_Put_n0 (s : St) : Option (Ifield_Put_n0 × Vfield_Put_n0) := match s with
  | { env := [(0, AV.str t0), (1, AV.int IntKind.i64 t1), (2, AV.int IntKind.i64 t2), (7, AV.own 0), (17, AV.int IntKind.i64 t17), (18, AV.int IntKind.i64 t18)], stk := [[]], H := [Obj.arr (Ty.int IntKind.u8) o0], blk := 94208 } => some ((t0, t1, t2, t17), (t18, o0))
  | _ => none
theorem decfield_Put_n0_ok (s : St) (x : Ifield_Put_n0 × Vfield_Put_n0) (h : decfield_Put_n0 s = some x) : s = Sfield_Put_n0 x.1 x.2 := by
  unfold decfield_Put_n0 at h
  split at h
  · cases h; rfl
  · cases h
def outfield_Put_n0 : Ifield_Put_n0 → (Ex → St → Ans) → Yfield_Put_n0 → Ans := fun (t0, t1, t2, t17) K => fun o0_y => K (Ex.exit 0) { env := [(0, AV.str t0), (7, AV.own 0)], stk := [[]], H := [Obj.arr (Ty.int IntKind.u8) o0_y], blk := 94208 }
def stepfield_Put_n0 {β : Type} : Ifield_Put_n0 → Vfield_Put_n0 → (Vfield_Put_n0 → Option β) → (Yfield_Put_n0 → Option β) → Option β := fun (t0, t1, t2, t17) (t18, o0) next exit => (bif decide (t18 < t17) then (bif decide (IntKind.wrap IntKind.i64 ((8 : Int) * IntKind.wrap IntKind.i64 (IntKind.wrap IntKind.i64 (t2 - (1 : Int)) - t18)) < (0 : Int)) then none else (bif inR t18 (List.length o0) then (bindO (o0[Int.toNat t18]?) fun x => (next (IntKind.wrap IntKind.i64 (t18 + (1 : Int)), List.set o0 (Int.toNat t18) (IntKind.wrap IntKind.u8 (Int.fdiv t1 ((2 : Int) ^ min (Int.toNat (IntKind.wrap IntKind.i64 ((8 : Int) * IntKind.wrap IntKind.i64 (IntKind.wrap IntKind.i64 (t2 - (1 : Int)) - t18)))) (64 : Nat))))))) else none)) else (exit (o0)))
def stepDfield_Put_n0 (i : Ifield_Put_n0) (v : Vfield_Put_n0) : Option (Vfield_Put_n0 ⊕ Yfield_Put_n0) := stepfield_Put_n0 i v (fun v => some (.inl v)) (fun y => some (.inr y))
theorem stepfield_Put_n0_nat (i : Ifield_Put_n0) (v : Vfield_Put_n0) (next : Vfield_Put_n0 → Ans) (exit : Yfield_Put_n0 → Ans) : stepfield_Put_n0 i v next exit = bindO (stepDfield_Put_n0 i v) (Sum.elim next exit) := by
  obtain ⟨t0, t1, t2, t17⟩ := i
  obtain ⟨t18, o0⟩ := v
  simp only [stepDfield_Put_n0, stepfield_Put_n0, bindO_cond, bindO_assoc, bindO_none, bindO_pure, bindO_elim, bindO_unP, Sum.elim_inl, Sum.elim_inr]
theorem stepfield_Put_n0_ok (n : Nat) (i : Ifield_Put_n0) (v : Vfield_Put_n0) (K : Ex → St → Ans) : codeI Try.tab envfield_Put noHint (codeD Try.tab envfield_Put noHint 0 64) (n+1) 37 annLfield_Put_n0 (.loop Lfield_Put_n0) (weakP 0 (exk [0, 7] [6] [(0, [0, 7])]) K) (Sfield_Put_n0 i v) = stepfield_Put_n0 i v (fun v' => codeI Try.tab envfield_Put noHint (codeD Try.tab envfield_Put noHint 0 64) n 37 annLfield_Put_n0 (.loop Lfield_Put_n0) (weakP 0 (exk [0, 7] [6] [(0, [0, 7])]) K) (Sfield_Put_n0 i v')) (fun y => outfield_Put_n0 i K y) := by kernel_rfl
theorem GNfield_Put_n0_ok : CSum Try.prog 37 (.loop Lfield_Put_n0) (sumL decfield_Put_n0 stepDfield_Put_n0 outfield_Put_n0) := csum_loop mixed tabOk envfield_PutOk 0 (exk [0, 7] [6] [(0, [0, 7])]) annLfield_Put_n0_ok decfield_Put_n0_ok stepfield_Put_n0_ok stepfield_Put_n0_nat
noncomputable def Gfield_Put_n0 : (Ex → St → Ans) → St → Ans := (sumL decfield_Put_n0 stepDfield_Put_n0 outfield_Put_n0)
theorem Gfield_Put_n0_ok : CSum Try.prog 37 (.loop Lfield_Put_n0) Gfield_Put_n0 := GNfield_Put_n0_ok
noncomputable def annfield_Put : Ann := (.seq .none (.seq .none (.seq .none (.seq (.seq .none (.block (.cut 0 [0, 1, 2, 7, 17, 18] Gfield_Put_n0))) .none))))
theorem annfield_Put_ok : AnnOk Try.prog 37 bfield_Put annfield_Put := ⟨(annOk_none _ _ _), ⟨(annOk_none _ _ _), ⟨(annOk_none _ _ _), ⟨⟨(annOk_none _ _ _), Gfield_Put_n0_ok⟩, (annOk_none _ _ _)⟩⟩⟩⟩
abbrev Afield_Put := (List UInt8) × (Int) × (Int)
abbrev Yfield_Put := (List UInt8)
def fnfield_Put {β : Type} : Afield_Put → (Yfield_Put → Option β) → Option β := fun (a0, a1, a2) exit => (bindO (fnDfield_Fits (a1, a2)) fun r => (bif !r then (exit (a0)) else (bif decide ((0 : Int) ≤ a2) && decide (a2 ≤ a2) && decide ((1 : Int) * a2 ≤ (281474976710656 : Int)) && decide (a2 ≤ (9223372036854775807 : Int)) then (bindO (loopD (stepDfield_Put_n0 (a0, a1, a2, (↑(List.length (List.replicate (Int.toNat a2) (0 : Int))) : Int))) FUEL ((0 : Int), List.replicate (Int.toNat a2) (0 : Int))) fun o0 => (bif Nat.ble (List.length a0 + List.length (bytesOf o0)) (9223372036854775807 : Nat) then (exit (a0 ++ bytesOf o0)) else none)) else none)))
def fnDfield_Put (a : Afield_Put) : Option Yfield_Put := fnfield_Put a some
theorem fnfield_Put_nat (a : Afield_Put) (k : Yfield_Put → Ans) : fnfield_Put a k = bindO (fnDfield_Put a) k := by
  obtain ⟨a0, a1, a2⟩ := a
  simp only [fnDfield_Put, fnfield_Put, bindO_cond, bindO_assoc, bindO_none, bindO_pure, bindO_elim, bindO_unP]
def argsfield_Put : Afield_Put → List AV := fun (a0, a1, a2) => [AV.str a0, AV.int IntKind.i64 a1, AV.int IntKind.i64 a2]
def decAfield_Put (l : List AV) : Option Afield_Put := match l with
  | [AV.str a0, AV.int IntKind.i64 a1, AV.int IntKind.i64 a2] => some (a0, a1, a2)
  | _ => none
theorem decAfield_Put_ok (l : List AV) (a : Afield_Put) (h : decAfield_Put l = some a) : l = argsfield_Put a := by
  unfold decAfield_Put at h
  split at h
  · cases h; rfl
  · cases h
def rendfield_Put : Afield_Put → Yfield_Put → AV := fun (a0, a1, a2) => fun r_y => AV.str r_y
theorem rendfield_Put_ok : ∀ (a : Afield_Put) (y : Yfield_Put), (rendfield_Put a y).closed1 = true := by
  rintro ⟨a0, a1, a2⟩ y <;> first | rfl | exact Empty.elim y
theorem fnfield_Put_ok (a : Afield_Put) : fnE Try.tab envfield_Put noHint 0 70 23 Try.f23.ntmps Try.f23.results.toList annfield_Put bfield_Put (argsfield_Put a) [] (fun v _ => some (v, [])) = fnfield_Put a (fun y => some (rendfield_Put a y, [])) := by kernel_rfl
def vFfield_Put (a : Afield_Put) (K : AV → Ans) : Ans := bindO (fnDfield_Put a) fun y => K (rendfield_Put a y)
def Ffield_Put : List AV → (AV → Ans) → Ans := fun l K => bindO (decAfield_Put l) fun a => vFfield_Put a K
theorem Ffield_Put_ok : PureOk Try.prog 23 Ffield_Put := pure_mkD (hint := noHint) (d := 0) (n := 70) mixed tabOk envfield_PutOk Try.func23 (bodySome (by kernel_rfl)) (by decide +kernel) annfield_Put_ok decAfield_Put_ok fnfield_Put_ok fnfield_Put_nat rendfield_Put_ok
--@ strings_Builder_WriteString
noncomputable def envstrings_Builder_WriteString : Env := [(42, .func FBuilder_copyCheck)]
theorem envstrings_Builder_WriteStringOk : EnvOk Try.prog envstrings_Builder_WriteString := EnvOk.cons FBuilder_copyCheck_ok (EnvOk.nil)
noncomputable def bstrings_Builder_WriteString : Code := Try.f24.body.getD .skip
noncomputable def annstrings_Builder_WriteString : Ann := .none
theorem annstrings_Builder_WriteString_ok : AnnOk Try.prog 19 bstrings_Builder_WriteString annstrings_Builder_WriteString := (annOk_none _ _ _)
abbrev Astrings_Builder_WriteString := (List UInt8) × (List Int)
abbrev Ystrings_Builder_WriteString := (Int) × (List Int)
def fnstrings_Builder_WriteString {β : Type} : Astrings_Builder_WriteString → (Ystrings_Builder_WriteString → Option β) → Option β := fun (a1, o1) exit => (bindO (fnDBuilder_copyCheck (o1)) fun o1_2 => (bif Nat.ble ((List.length o1_2 + List.length (intsOf a1)) * (1 : Nat)) (140737488355328 : Nat) then (exit ((↑(List.length a1) : Int), o1_2 ++ intsOf a1)) else none))
def fnDstrings_Builder_WriteString (a : Astrings_Builder_WriteString) : Option Ystrings_Builder_WriteString := fnstrings_Builder_WriteString a some
theorem fnstrings_Builder_WriteString_nat (a : Astrings_Builder_WriteString) (k : Ystrings_Builder_WriteString → Ans) : fnstrings_Builder_WriteString a k = bindO (fnDstrings_Builder_WriteString a) k := by
  obtain ⟨a1, o1⟩ := a
  simp only [fnDstrings_Builder_WriteString, fnstrings_Builder_WriteString, bindO_cond, bindO_assoc, bindO_none, bindO_pure, bindO_elim, bindO_unP]
def argsstrings_Builder_WriteString : Astrings_Builder_WriteString → List AV × List AE.Obj := fun (a1, o1) => ([AV.ptr 0 0, AV.str a1], [Obj.bcells [AV.own 1], Obj.arr (Ty.int IntKind.u8) o1])
def decAstrings_Builder_WriteString (l : List AV) (H : List AE.Obj) : Option Astrings_Builder_WriteString := match l, H with
  | [AV.ptr 0 0, AV.str a1], [Obj.bcells [AV.own 1], Obj.arr (Ty.int IntKind.u8) o1] => some (a1, o1)
  | _, _ => none
theorem decAstrings_Builder_WriteString_ok (l : List AV) (H : List AE.Obj) (a : Astrings_Builder_WriteString) (h : decAstrings_Builder_WriteString l H = some a) : (l, H) = argsstrings_Builder_WriteString a := by
  unfold decAstrings_Builder_WriteString at h
  split at h
  · cases h; rfl
  · cases h
def outstrings_Builder_WriteString : Astrings_Builder_WriteString → (AV → List AE.Obj → Ans) → Ystrings_Builder_WriteString → Ans := fun (a1, o1) K => unP fun r_0_y o1_y => K (AV.tup [AV.int IntKind.i64 r_0_y, AV.nili]) [Obj.bcells [AV.own 1], Obj.arr (Ty.int IntKind.u8) o1_y]
theorem fnstrings_Builder_WriteString_ok (a : Astrings_Builder_WriteString) (K : AV → List AE.Obj → Ans) : fnE Try.tab envstrings_Builder_WriteString noHint 0 70 24 Try.f24.ntmps Try.f24.results.toList annstrings_Builder_WriteString bstrings_Builder_WriteString (argsstrings_Builder_WriteString a).1 (argsstrings_Builder_WriteString a).2 K = fnstrings_Builder_WriteString a (outstrings_Builder_WriteString a K) := by kernel_rfl
def vFstrings_Builder_WriteString (a : Astrings_Builder_WriteString) (K : AV → List AE.Obj → Ans) : Ans := bindO (fnDstrings_Builder_WriteString a) fun y => outstrings_Builder_WriteString a K y
def Fstrings_Builder_WriteString : List AV → List AE.Obj → (AV → List AE.Obj → Ans) → Ans := fun l H K => bindO (decAstrings_Builder_WriteString l H) fun a => vFstrings_Builder_WriteString a K
theorem Fstrings_Builder_WriteString_ok : FuncOk Try.prog 24 Fstrings_Builder_WriteString := func_mkD (hint := noHint) (d := 0) (n := 70) mixed tabOk envstrings_Builder_WriteStringOk Try.func24 (bodySome (by kernel_rfl)) (by decide +kernel) annstrings_Builder_WriteString_ok decAstrings_Builder_WriteString_ok fnstrings_Builder_WriteString_ok fnstrings_Builder_WriteString_nat
--@ cyclic_New
noncomputable def envcyclic_New : Env := []
theorem envcyclic_NewOk : EnvOk Try.prog envcyclic_New := EnvOk.nil
noncomputable def bcyclic_New : Code := Try.f63.body.getD .skip
noncomputable def anncyclic_New : Ann := .none
theorem anncyclic_New_ok : AnnOk Try.prog 3 bcyclic_New anncyclic_New := (annOk_none _ _ _)
abbrev Acyclic_New := Unit
abbrev Ycyclic_New := Unit
def fncyclic_New {β : Type} : Acyclic_New → (Ycyclic_New → Option β) → Option β := fun _ exit => (exit ())
def fnDcyclic_New (a : Acyclic_New) : Option Ycyclic_New := fncyclic_New a some
theorem fncyclic_New_nat (a : Acyclic_New) (k : Ycyclic_New → Ans) : fncyclic_New a k = bindO (fnDcyclic_New a) k := by
  obtain z := a
  simp only [fnDcyclic_New, fncyclic_New, bindO_cond, bindO_assoc, bindO_none, bindO_pure, bindO_elim, bindO_unP]
def argscyclic_New : Acyclic_New → List AV × List AE.Obj := fun _ => ([], [])
def decAcyclic_New (l : List AV) (H : List AE.Obj) : Option Acyclic_New := match l, H with
  | [], [] => some ()
  | _, _ => none
theorem decAcyclic_New_ok (l : List AV) (H : List AE.Obj) (a : Acyclic_New) (h : decAcyclic_New l H = some a) : (l, H) = argscyclic_New a := by
  unfold decAcyclic_New at h
  split at h
  · cases h; rfl
  · cases h
def outcyclic_New : Acyclic_New → (AV → List AE.Obj → Ans) → Ycyclic_New → Ans := fun _ K => fun _ => K (AV.ptr 0 0) [AE.Obj.cells [AV.int IntKind.u32 (0)]]
theorem fncyclic_New_ok (a : Acyclic_New) (K : AV → List AE.Obj → Ans) : fnE Try.tab envcyclic_New noHint 0 70 63 Try.f63.ntmps Try.f63.results.toList anncyclic_New bcyclic_New (argscyclic_New a).1 (argscyclic_New a).2 K = fncyclic_New a (outcyclic_New a K) := by kernel_rfl
def vFcyclic_New (a : Acyclic_New) (K : AV → List AE.Obj → Ans) : Ans := bindO (fnDcyclic_New a) fun y => outcyclic_New a K y
def Fcyclic_New : List AV → List AE.Obj → (AV → List AE.Obj → Ans) → Ans := fun l H K => bindO (decAcyclic_New l H) fun a => vFcyclic_New a K
theorem Fcyclic_New_ok : FuncOk Try.prog 63 Fcyclic_New := func_mkD (hint := noHint) (d := 0) (n := 70) mixed tabOk envcyclic_NewOk Try.func63 (bodySome (by kernel_rfl)) (by decide +kernel) anncyclic_New_ok decAcyclic_New_ok fncyclic_New_ok fncyclic_New_nat
--@ cyclic_step
noncomputable def envcyclic_step : Env := []
theorem envcyclic_stepOk : EnvOk Try.prog envcyclic_step := EnvOk.nil
noncomputable def bcyclic_step : Code := Try.f72.body.getD .skip
noncomputable def Lcyclic_step_n0 : Code := codeAt [1, 1, 0, 1, 0, 0] bcyclic_step
noncomputable def annLcyclic_step_n0 : Ann := .at 0 [0, 9] (.loop .none)
theorem annLcyclic_step_n0_ok : AnnOk Try.prog 20 (.loop Lcyclic_step_n0) annLcyclic_step_n0 := annOk_at (annOk_none _ _ _)
abbrev Icyclic_step_n0 := Unit
abbrev Ycyclic_step_n0 := (Int)
abbrev Vcyclic_step_n0 := (Int) × (Int)
def Scyclic_step_n0 : Icyclic_step_n0 → Vcyclic_step_n0 → St := fun _ (t0, t9) => { env := [(0, AV.int IntKind.u32 t0), (9, AV.int IntKind.i64 t9)], stk := [[]], H := [], blk := 294912 }
def deccyclic_step_n0 (s : St) : Option (Icyclic_step_n0 × Vcyclic_step_n0) := match s with
  | { env := [(0, AV.int IntKind.u32 t0), (9, AV.int IntKind.i64 t9)], stk := [[]], H := [], blk := 294912 } => some ((), (t0, t9))
  | _ => none
theorem deccyclic_step_n0_ok (s : St) (x : Icyclic_step_n0 × Vcyclic_step_n0) (h : deccyclic_step_n0 s = some x) : s = Scyclic_step_n0 x.1 x.2 := by
  unfold deccyclic_step_n0 at h
  split at h
  · cases h; rfl
  · cases h
def outcyclic_step_n0 : Icyclic_step_n0 → (Ex → St → Ans) → Ycyclic_step_n0 → Ans := fun _ K => fun t0_y => K (Ex.exit 0) { env := [(0, AV.int IntKind.u32 t0_y)], stk := [[]], H := [], blk := 294912 }
def stepcyclic_step_n0 {β : Type} : Icyclic_step_n0 → Vcyclic_step_n0 → (Vcyclic_step_n0 → Option β) → (Ycyclic_step_n0 → Option β) → Option β := fun _ (t0, t9) next exit => (bif decide (t9 < (8 : Int)) then (next (IntKind.wrap IntKind.u32 (↑(Int.toNat (Int.fdiv t0 (2 : Int) % (4294967296 : Int)) ^^^ Int.toNat (IntKind.wrap IntKind.u32 (↑((3988292384 : Nat) &&& Int.toNat (IntKind.wrap IntKind.u32 ((0 : Int) - IntKind.wrap IntKind.u32 (↑(Int.toNat (t0 % (4294967296 : Int)) &&& (1 : Nat)) : Int)) % (4294967296 : Int))) : Int) % (4294967296 : Int))) : Int), IntKind.wrap IntKind.i64 (t9 + (1 : Int)))) else (exit (t0)))
def stepDcyclic_step_n0 (i : Icyclic_step_n0) (v : Vcyclic_step_n0) : Option (Vcyclic_step_n0 ⊕ Ycyclic_step_n0) := stepcyclic_step_n0 i v (fun v => some (.inl v)) (fun y => some (.inr y))
theorem stepcyclic_step_n0_nat (i : Icyclic_step_n0) (v : Vcyclic_step_n0) (next : Vcyclic_step_n0 → Ans) (exit : Ycyclic_step_n0 → Ans) : stepcyclic_step_n0 i v next exit = bindO (stepDcyclic_step_n0 i v) (Sum.elim next exit) := by
  obtain z := i
  obtain ⟨t0, t9⟩ := v
  simp only [stepDcyclic_step_n0, stepcyclic_step_n0, bindO_cond, bindO_assoc, bindO_none, bindO_pure, bindO_elim, bindO_unP, Sum.elim_inl, Sum.elim_inr]
theorem stepcyclic_step_n0_ok (n : Nat) (i : Icyclic_step_n0) (v : Vcyclic_step_n0) (K : Ex → St → Ans) : codeI Try.tab envcyclic_step noHint (codeD Try.tab envcyclic_step noHint 0 64) (n+1) 20 annLcyclic_step_n0 (.loop Lcyclic_step_n0) (weakP 0 (exk [0] [4] [(0, [0])]) K) (Scyclic_step_n0 i v) = stepcyclic_step_n0 i v (fun v' => codeI Try.tab envcyclic_step noHint (codeD Try.tab envcyclic_step noHint 0 64) n 20 annLcyclic_step_n0 (.loop Lcyclic_step_n0) (weakP 0 (exk [0] [4] [(0, [0])]) K) (Scyclic_step_n0 i v')) (fun y => outcyclic_step_n0 i K y) := by kernel_rfl
theorem GNcyclic_step_n0_ok : CSum Try.prog 20 (.loop Lcyclic_step_n0) (sumL deccyclic_step_n0 stepDcyclic_step_n0 outcyclic_step_n0) := csum_loop mixed tabOk envcyclic_stepOk 0 (exk [0] [4] [(0, [0])]) annLcyclic_step_n0_ok deccyclic_step_n0_ok stepcyclic_step_n0_ok stepcyclic_step_n0_nat
noncomputable def Gcyclic_step_n0 : (Ex → St → Ans) → St → Ans := (sumL deccyclic_step_n0 stepDcyclic_step_n0 outcyclic_step_n0)
theorem Gcyclic_step_n0_ok : CSum Try.prog 20 (.loop Lcyclic_step_n0) Gcyclic_step_n0 := GNcyclic_step_n0_ok
noncomputable def anncyclic_step : Ann := (.seq .none (.seq .none (.seq (.seq .none (.block (.cut 0 [0, 9] Gcyclic_step_n0))) .none)))
theorem anncyclic_step_ok : AnnOk Try.prog 20 bcyclic_step anncyclic_step := ⟨(annOk_none _ _ _), ⟨(annOk_none _ _ _), ⟨⟨(annOk_none _ _ _), Gcyclic_step_n0_ok⟩, (annOk_none _ _ _)⟩⟩⟩
abbrev Acyclic_step := (Int) × (Int)
abbrev Ycyclic_step := (Int)
def fncyclic_step {β : Type} : Acyclic_step → (Ycyclic_step → Option β) → Option β := fun (a0, a1) exit => (bindO (loopD (stepDcyclic_step_n0 ()) FUEL (IntKind.wrap IntKind.u32 (↑(Int.toNat (a0 % (4294967296 : Int)) ^^^ Int.toNat (IntKind.wrap IntKind.u32 a1 % (4294967296 : Int))) : Int), (0 : Int))) fun t0 => (exit (t0)))
def fnDcyclic_step (a : Acyclic_step) : Option Ycyclic_step := fncyclic_step a some
theorem fncyclic_step_nat (a : Acyclic_step) (k : Ycyclic_step → Ans) : fncyclic_step a k = bindO (fnDcyclic_step a) k := by
  obtain ⟨a0, a1⟩ := a
  simp only [fnDcyclic_step, fncyclic_step, bindO_cond, bindO_assoc, bindO_none, bindO_pure, bindO_elim, bindO_unP]
def argscyclic_step : Acyclic_step → List AV := fun (a0, a1) => [AV.int IntKind.u32 a0, AV.int IntKind.u8 a1]
def decAcyclic_step (l : List AV) : Option Acyclic_step := match l with
  | [AV.int IntKind.u32 a0, AV.int IntKind.u8 a1] => some (a0, a1)
  | _ => none
theorem decAcyclic_step_ok (l : List AV) (a : Acyclic_step) (h : decAcyclic_step l = some a) : l = argscyclic_step a := by
  unfold decAcyclic_step at h
  split at h
  · cases h; rfl
  · cases h
def rendcyclic_step : Acyclic_step → Ycyclic_step → AV := fun (a0, a1) => fun r_y => AV.int IntKind.u32 r_y
theorem rendcyclic_step_ok : ∀ (a : Acyclic_step) (y : Ycyclic_step), (rendcyclic_step a y).closed1 = true := by
  rintro ⟨a0, a1⟩ y <;> first | rfl | exact Empty.elim y
theorem fncyclic_step_ok (a : Acyclic_step) : fnE Try.tab envcyclic_step noHint 0 70 72 Try.f72.ntmps Try.f72.results.toList anncyclic_step bcyclic_step (argscyclic_step a) [] (fun v _ => some (v, [])) = fncyclic_step a (fun y => some (rendcyclic_step a y, [])) := by kernel_rfl
def vFcyclic_step (a : Acyclic_step) (K : AV → Ans) : Ans := bindO (fnDcyclic_step a) fun y => K (rendcyclic_step a y)
def Fcyclic_step : List AV → (AV → Ans) → Ans := fun l K => bindO (decAcyclic_step l) fun a => vFcyclic_step a K
theorem Fcyclic_step_ok : PureOk Try.prog 72 Fcyclic_step := pure_mkD (hint := noHint) (d := 0) (n := 70) mixed tabOk envcyclic_stepOk Try.func72 (bodySome (by kernel_rfl)) (by decide +kernel) anncyclic_step_ok decAcyclic_step_ok fncyclic_step_ok fncyclic_step_nat rendcyclic_step_ok
--@ cyclic_State_Add
noncomputable def envcyclic_State_Add : Env := [(72, .pure Fcyclic_step)]
theorem envcyclic_State_AddOk : EnvOk Try.prog envcyclic_State_Add := EnvOk.cons Fcyclic_step_ok (EnvOk.nil)
noncomputable def bcyclic_State_Add : Code := Try.f64.body.getD .skip
noncomputable def Lcyclic_State_Add_n0 : Code := codeAt [1, 1, 0, 1, 0, 0] bcyclic_State_Add
noncomputable def annLcyclic_State_Add_n0 : Ann := .at 1 [0, 1, 4, 14, 15] (.loop .none)
theorem annLcyclic_State_Add_n0_ok : AnnOk Try.prog 29 (.loop Lcyclic_State_Add_n0) annLcyclic_State_Add_n0 := annOk_at (annOk_none _ _ _)
abbrev Icyclic_State_Add_n0 := (List UInt8) × (Int) × (Int)
abbrev Ycyclic_State_Add_n0 := (Int)
abbrev Vcyclic_State_Add_n0 := (Int) × (Int)
def Scyclic_State_Add_n0 : Icyclic_State_Add_n0 → Vcyclic_State_Add_n0 → St := fun (t1, t14, o0_0) (t4, t15) => { env := [(0, AV.ptr 0 0), (1, AV.str t1), (4, AV.int IntKind.u32 t4), (14, AV.int IntKind.i64 t14), (15, AV.int IntKind.i64 t15)], stk := [[(0, AV.ptr 0 0)]], H := [AE.Obj.cells [AV.int IntKind.u32 o0_0]], blk := 262144 }
def deccyclic_State_Add_n0 (s : St) : Option (Icyclic_State_Add_n0 × Vcyclic_State_Add_n0) := match s with
  | { env := [(0, AV.ptr 0 0), (1, AV.str t1), (4, AV.int IntKind.u32 t4), (14, AV.int IntKind.i64 t14), (15, AV.int IntKind.i64 t15)], stk := [[(0, AV.ptr 0 0)]], H := [AE.Obj.cells [AV.int IntKind.u32 o0_0]], blk := 262144 } => some ((t1, t14, o0_0), (t4, t15))
  | _ => none
theorem deccyclic_State_Add_n0_ok (s : St) (x : Icyclic_State_Add_n0 × Vcyclic_State_Add_n0) (h : deccyclic_State_Add_n0 s = some x) : s = Scyclic_State_Add_n0 x.1 x.2 := by
  unfold deccyclic_State_Add_n0 at h
  split at h
  · cases h; rfl
  · cases h
def outcyclic_State_Add_n0 : Icyclic_State_Add_n0 → (Ex → St → Ans) → Ycyclic_State_Add_n0 → Ans := fun (t1, t14, o0_0) K => fun t4_y => K (Ex.exit 0) { env := [(0, AV.ptr 0 0), (4, AV.int IntKind.u32 t4_y)], stk := [[(0, AV.ptr 0 0)]], H := [AE.Obj.cells [AV.int IntKind.u32 o0_0]], blk := 262144 }
def stepcyclic_State_Add_n0 {β : Type} : Icyclic_State_Add_n0 → Vcyclic_State_Add_n0 → (Vcyclic_State_Add_n0 → Option β) → (Ycyclic_State_Add_n0 → Option β) → Option β := fun (t1, t14, o0_0) (t4, t15) next exit => (bif decide (t15 < t14) then (bindO (nth t1 t15) fun x => (bindO (fnDcyclic_step (t4, (↑(UInt8.toNat x) : Int))) fun r => (next (r, IntKind.wrap IntKind.i64 (t15 + (1 : Int)))))) else (exit (t4)))
def stepDcyclic_State_Add_n0 (i : Icyclic_State_Add_n0) (v : Vcyclic_State_Add_n0) : Option (Vcyclic_State_Add_n0 ⊕ Ycyclic_State_Add_n0) := stepcyclic_State_Add_n0 i v (fun v => some (.inl v)) (fun y => some (.inr y))
theorem stepcyclic_State_Add_n0_nat (i : Icyclic_State_Add_n0) (v : Vcyclic_State_Add_n0) (next : Vcyclic_State_Add_n0 → Ans) (exit : Ycyclic_State_Add_n0 → Ans) : stepcyclic_State_Add_n0 i v next exit = bindO (stepDcyclic_State_Add_n0 i v) (Sum.elim next exit) := by
  obtain ⟨t1, t14, o0_0⟩ := i
  obtain ⟨t4, t15⟩ := v
  simp only [stepDcyclic_State_Add_n0, stepcyclic_State_Add_n0, bindO_cond, bindO_assoc, bindO_none, bindO_pure, bindO_elim, bindO_unP, Sum.elim_inl, Sum.elim_inr]
theorem stepcyclic_State_Add_n0_ok (n : Nat) (i : Icyclic_State_Add_n0) (v : Vcyclic_State_Add_n0) (K : Ex → St → Ans) : codeI Try.tab envcyclic_State_Add noHint (codeD Try.tab envcyclic_State_Add noHint 0 64) (n+1) 29 annLcyclic_State_Add_n0 (.loop Lcyclic_State_Add_n0) (weakP 1 (exk [0, 4] [] [(0, [0, 4])]) K) (Scyclic_State_Add_n0 i v) = stepcyclic_State_Add_n0 i v (fun v' => codeI Try.tab envcyclic_State_Add noHint (codeD Try.tab envcyclic_State_Add noHint 0 64) n 29 annLcyclic_State_Add_n0 (.loop Lcyclic_State_Add_n0) (weakP 1 (exk [0, 4] [] [(0, [0, 4])]) K) (Scyclic_State_Add_n0 i v')) (fun y => outcyclic_State_Add_n0 i K y) := by kernel_rfl
theorem GNcyclic_State_Add_n0_ok : CSum Try.prog 29 (.loop Lcyclic_State_Add_n0) (sumL deccyclic_State_Add_n0 stepDcyclic_State_Add_n0 outcyclic_State_Add_n0) := csum_loop mixed tabOk envcyclic_State_AddOk 1 (exk [0, 4] [] [(0, [0, 4])]) annLcyclic_State_Add_n0_ok deccyclic_State_Add_n0_ok stepcyclic_State_Add_n0_ok stepcyclic_State_Add_n0_nat
noncomputable def Gcyclic_State_Add_n0 : (Ex → St → Ans) → St → Ans := (sumL deccyclic_State_Add_n0 stepDcyclic_State_Add_n0 outcyclic_State_Add_n0)
theorem Gcyclic_State_Add_n0_ok : CSum Try.prog 29 (.loop Lcyclic_State_Add_n0) Gcyclic_State_Add_n0 := GNcyclic_State_Add_n0_ok
noncomputable def anncyclic_State_Add : Ann := (.seq .none (.seq .none (.seq (.seq .none (.block (.cut 1 [0, 1, 4, 14, 15] Gcyclic_State_Add_n0))) .none)))
theorem anncyclic_State_Add_ok : AnnOk Try.prog 29 bcyclic_State_Add anncyclic_State_Add := ⟨(annOk_none _ _ _), ⟨(annOk_none _ _ _), ⟨⟨(annOk_none _ _ _), Gcyclic_State_Add_n0_ok⟩, (annOk_none _ _ _)⟩⟩⟩
abbrev Acyclic_State_Add := (List UInt8) × (Int)
abbrev Ycyclic_State_Add := (Int)
def fncyclic_State_Add {β : Type} : Acyclic_State_Add → (Ycyclic_State_Add → Option β) → Option β := fun (a1, o0_0) exit => (bindO (loopD (stepDcyclic_State_Add_n0 (a1, (↑(List.length a1) : Int), o0_0)) FUEL (IntKind.wrap IntKind.u32 (↑(Int.toNat (o0_0 % (4294967296 : Int)) ^^^ (4294967295 : Nat)) : Int), (0 : Int))) fun t4 => (exit (IntKind.wrap IntKind.u32 (↑(Int.toNat (t4 % (4294967296 : Int)) ^^^ (4294967295 : Nat)) : Int))))
def fnDcyclic_State_Add (a : Acyclic_State_Add) : Option Ycyclic_State_Add := fncyclic_State_Add a some
theorem fncyclic_State_Add_nat (a : Acyclic_State_Add) (k : Ycyclic_State_Add → Ans) : fncyclic_State_Add a k = bindO (fnDcyclic_State_Add a) k := by
  obtain ⟨a1, o0_0⟩ := a
  simp only [fnDcyclic_State_Add, fncyclic_State_Add, bindO_cond, bindO_assoc, bindO_none, bindO_pure, bindO_elim, bindO_unP]
def argscyclic_State_Add : Acyclic_State_Add → List AV × List AE.Obj := fun (a1, o0_0) => ([AV.ptr 0 0, AV.str a1], [AE.Obj.cells [AV.int IntKind.u32 o0_0]])
def decAcyclic_State_Add (l : List AV) (H : List AE.Obj) : Option Acyclic_State_Add := match l, H with
  | [AV.ptr 0 0, AV.str a1], [AE.Obj.cells [AV.int IntKind.u32 o0_0]] => some (a1, o0_0)
  | _, _ => none
theorem decAcyclic_State_Add_ok (l : List AV) (H : List AE.Obj) (a : Acyclic_State_Add) (h : decAcyclic_State_Add l H = some a) : (l, H) = argscyclic_State_Add a := by
  unfold decAcyclic_State_Add at h
  split at h
  · cases h; rfl
  · cases h
def outcyclic_State_Add : Acyclic_State_Add → (AV → List AE.Obj → Ans) → Ycyclic_State_Add → Ans := fun (a1, o0_0) K => fun o0_0_y => K (AV.tup []) [AE.Obj.cells [AV.int IntKind.u32 o0_0_y]]
theorem fncyclic_State_Add_ok (a : Acyclic_State_Add) (K : AV → List AE.Obj → Ans) : fnE Try.tab envcyclic_State_Add noHint 0 70 64 Try.f64.ntmps Try.f64.results.toList anncyclic_State_Add bcyclic_State_Add (argscyclic_State_Add a).1 (argscyclic_State_Add a).2 K = fncyclic_State_Add a (outcyclic_State_Add a K) := by kernel_rfl
def vFcyclic_State_Add (a : Acyclic_State_Add) (K : AV → List AE.Obj → Ans) : Ans := bindO (fnDcyclic_State_Add a) fun y => outcyclic_State_Add a K y
def Fcyclic_State_Add : List AV → List AE.Obj → (AV → List AE.Obj → Ans) → Ans := fun l H K => bindO (decAcyclic_State_Add l H) fun a => vFcyclic_State_Add a K
theorem Fcyclic_State_Add_ok : FuncOk Try.prog 64 Fcyclic_State_Add := func_mkD (hint := noHint) (d := 0) (n := 70) mixed tabOk envcyclic_State_AddOk Try.func64 (bodySome (by kernel_rfl)) (by decide +kernel) anncyclic_State_Add_ok decAcyclic_State_Add_ok fncyclic_State_Add_ok fncyclic_State_Add_nat
--@ cyclic_State_Sum
noncomputable def envcyclic_State_Sum : Env := []
theorem envcyclic_State_SumOk : EnvOk Try.prog envcyclic_State_Sum := EnvOk.nil
noncomputable def bcyclic_State_Sum : Code := Try.f65.body.getD .skip
noncomputable def anncyclic_State_Sum : Ann := .none
theorem anncyclic_State_Sum_ok : AnnOk Try.prog 10 bcyclic_State_Sum anncyclic_State_Sum := (annOk_none _ _ _)
abbrev Acyclic_State_Sum := (Int)
abbrev Ycyclic_State_Sum := (Int)
def fncyclic_State_Sum {β : Type} : Acyclic_State_Sum → (Ycyclic_State_Sum → Option β) → Option β := fun o0_0 exit => (exit (IntKind.wrap IntKind.i64 o0_0))
def fnDcyclic_State_Sum (a : Acyclic_State_Sum) : Option Ycyclic_State_Sum := fncyclic_State_Sum a some
theorem fncyclic_State_Sum_nat (a : Acyclic_State_Sum) (k : Ycyclic_State_Sum → Ans) : fncyclic_State_Sum a k = bindO (fnDcyclic_State_Sum a) k := by
  obtain z := a
  simp only [fnDcyclic_State_Sum, fncyclic_State_Sum, bindO_cond, bindO_assoc, bindO_none, bindO_pure, bindO_elim, bindO_unP]
def argscyclic_State_Sum : Acyclic_State_Sum → List AV × List AE.Obj := fun o0_0 => ([AV.ptr 0 0], [AE.Obj.cells [AV.int IntKind.u32 o0_0]])
def decAcyclic_State_Sum (l : List AV) (H : List AE.Obj) : Option Acyclic_State_Sum := match l, H with
  | [AV.ptr 0 0], [AE.Obj.cells [AV.int IntKind.u32 o0_0]] => some (o0_0)
  | _, _ => none
theorem decAcyclic_State_Sum_ok (l : List AV) (H : List AE.Obj) (a : Acyclic_State_Sum) (h : decAcyclic_State_Sum l H = some a) : (l, H) = argscyclic_State_Sum a := by
  unfold decAcyclic_State_Sum at h
  split at h
  · cases h; rfl
  · cases h
def outcyclic_State_Sum : Acyclic_State_Sum → (AV → List AE.Obj → Ans) → Ycyclic_State_Sum → Ans := fun o0_0 K => fun r_y => K (AV.int IntKind.i64 r_y) [AE.Obj.cells [AV.int IntKind.u32 o0_0]]
theorem fncyclic_State_Sum_ok (a : Acyclic_State_Sum) (K : AV → List AE.Obj → Ans) : fnE Try.tab envcyclic_State_Sum noHint 0 70 65 Try.f65.ntmps Try.f65.results.toList anncyclic_State_Sum bcyclic_State_Sum (argscyclic_State_Sum a).1 (argscyclic_State_Sum a).2 K = fncyclic_State_Sum a (outcyclic_State_Sum a K) := by kernel_rfl
def vFcyclic_State_Sum (a : Acyclic_State_Sum) (K : AV → List AE.Obj → Ans) : Ans := bindO (fnDcyclic_State_Sum a) fun y => outcyclic_State_Sum a K y
def Fcyclic_State_Sum : List AV → List AE.Obj → (AV → List AE.Obj → Ans) → Ans := fun l H K => bindO (decAcyclic_State_Sum l H) fun a => vFcyclic_State_Sum a K
theorem Fcyclic_State_Sum_ok : FuncOk Try.prog 65 Fcyclic_State_Sum := func_mkD (hint := noHint) (d := 0) (n := 70) mixed tabOk envcyclic_State_SumOk Try.func65 (bodySome (by kernel_rfl)) (by decide +kernel) anncyclic_State_Sum_ok decAcyclic_State_Sum_ok fncyclic_State_Sum_ok fncyclic_State_Sum_nat
--@ cyclic_Of
noncomputable def envcyclic_Of : Env := [(63, .func Fcyclic_New), (64, .func Fcyclic_State_Add), (65, .func Fcyclic_State_Sum)]
theorem envcyclic_OfOk : EnvOk Try.prog envcyclic_Of := EnvOk.cons Fcyclic_New_ok (EnvOk.cons Fcyclic_State_Add_ok (EnvOk.cons Fcyclic_State_Sum_ok (EnvOk.nil)))
noncomputable def bcyclic_Of : Code := Try.f54.body.getD .skip
noncomputable def anncyclic_Of : Ann := .none
theorem anncyclic_Of_ok : AnnOk Try.prog 10 bcyclic_Of anncyclic_Of := (annOk_none _ _ _)
abbrev Acyclic_Of := (List UInt8)
abbrev Ycyclic_Of := (Int)
def fncyclic_Of {β : Type} : Acyclic_Of → (Ycyclic_Of → Option β) → Option β := fun a0 exit => (bindO (fnDcyclic_New ()) fun _ => (bindO (fnDcyclic_State_Add (a0, (0 : Int))) fun o0_0 => (bindO (fnDcyclic_State_Sum (o0_0)) fun r => (exit (r)))))
def fnDcyclic_Of (a : Acyclic_Of) : Option Ycyclic_Of := fncyclic_Of a some
theorem fncyclic_Of_nat (a : Acyclic_Of) (k : Ycyclic_Of → Ans) : fncyclic_Of a k = bindO (fnDcyclic_Of a) k := by
  obtain z := a
  simp only [fnDcyclic_Of, fncyclic_Of, bindO_cond, bindO_assoc, bindO_none, bindO_pure, bindO_elim, bindO_unP]
def argscyclic_Of : Acyclic_Of → List AV := fun a0 => [AV.str a0]
def decAcyclic_Of (l : List AV) : Option Acyclic_Of := match l with
  | [AV.str a0] => some (a0)
  | _ => none
theorem decAcyclic_Of_ok (l : List AV) (a : Acyclic_Of) (h : decAcyclic_Of l = some a) : l = argscyclic_Of a := by
  unfold decAcyclic_Of at h
  split at h
  · cases h; rfl
  · cases h
def rendcyclic_Of : Acyclic_Of → Ycyclic_Of → AV := fun a0 => fun r_y => AV.int IntKind.i64 r_y
theorem rendcyclic_Of_ok : ∀ (a : Acyclic_Of) (y : Ycyclic_Of), (rendcyclic_Of a y).closed1 = true := by
  rintro z y <;> first | rfl | exact Empty.elim y
theorem fncyclic_Of_ok (a : Acyclic_Of) : fnE Try.tab envcyclic_Of noHint 0 70 54 Try.f54.ntmps Try.f54.results.toList anncyclic_Of bcyclic_Of (argscyclic_Of a) [] (fun v _ => some (v, [])) = fncyclic_Of a (fun y => some (rendcyclic_Of a y, [])) := by kernel_rfl
def vFcyclic_Of (a : Acyclic_Of) (K : AV → Ans) : Ans := bindO (fnDcyclic_Of a) fun y => K (rendcyclic_Of a y)
def Fcyclic_Of : List AV → (AV → Ans) → Ans := fun l K => bindO (decAcyclic_Of l) fun a => vFcyclic_Of a K
theorem Fcyclic_Of_ok : PureOk Try.prog 54 Fcyclic_Of := pure_mkD (hint := noHint) (d := 0) (n := 70) mixed tabOk envcyclic_OfOk Try.func54 (bodySome (by kernel_rfl)) (by decide +kernel) anncyclic_Of_ok decAcyclic_Of_ok fncyclic_Of_ok fncyclic_Of_nat rendcyclic_Of_ok
--@ cyclic_Tail
noncomputable def envcyclic_Tail : Env := [(54, .pure Fcyclic_Of)]
theorem envcyclic_TailOk : EnvOk Try.prog envcyclic_Tail := EnvOk.cons Fcyclic_Of_ok (EnvOk.nil)
noncomputable def bcyclic_Tail : Code := Try.f43.body.getD .skip
noncomputable def Lcyclic_Tail_n1 : Code := codeAt [1, 1, 1, 0, 1, 0, 0] bcyclic_Tail
noncomputable def annLcyclic_Tail_n1 : Ann := .none
theorem annLcyclic_Tail_n1_ok : AnnOk Try.prog 21 Lcyclic_Tail_n1 annLcyclic_Tail_n1 := (annOk_none _ _ _)
abbrev Icyclic_Tail_n1 := (Int) × (Int) × (Int) × (Int) × (Int)
abbrev Ycyclic_Tail_n1 := Unit
def Scyclic_Tail_n1 : Icyclic_Tail_n1 → St := fun (t3, o0_0, o0_1, o0_2, o0_3) => { env := [(3, AV.int IntKind.i64 t3), (4, AV.ptr 0 0), (8, AV.int IntKind.i64 (4))], stk := [[]], H := [AE.Obj.cells [AV.int IntKind.u8 o0_0, AV.int IntKind.u8 o0_1, AV.int IntKind.u8 o0_2, AV.int IntKind.u8 o0_3]], blk := 176128 }
def deccyclic_Tail_n1 (s : St) : Option Icyclic_Tail_n1 := match s with
  | { env := [(3, AV.int IntKind.i64 t3), (4, AV.ptr 0 0), (8, AV.int IntKind.i64 r1)], stk := [[]], H := [AE.Obj.cells [AV.int IntKind.u8 o0_0, AV.int IntKind.u8 o0_1, AV.int IntKind.u8 o0_2, AV.int IntKind.u8 o0_3]], blk := 176128 } => cond (decide (r1 = 4)) (some (t3, o0_0, o0_1, o0_2, o0_3)) none
  | _ => none
theorem deccyclic_Tail_n1_ok (s : St) (x : Icyclic_Tail_n1) (h : deccyclic_Tail_n1 s = some x) : s = Scyclic_Tail_n1 x := by
  unfold deccyclic_Tail_n1 at h
  split at h
  · replace h := cond_noneO h; obtain ⟨hg, h⟩ := h; simp only [Bool.and_eq_true, decide_eq_true_eq] at hg; simp only [hg]; cases h; rfl
  · cases h
def outcyclic_Tail_n1 : Icyclic_Tail_n1 → (Ex → St → Ans) → Ycyclic_Tail_n1 → Ans := fun (t3, o0_0, o0_1, o0_2, o0_3) K => fun _ => K (Ex.exit 0) { env := [(4, AV.ptr 0 0)], stk := [[]], H := [AE.Obj.cells [AV.int IntKind.u8 o0_0, AV.int IntKind.u8 o0_1, AV.int IntKind.u8 o0_2, AV.int IntKind.u8 o0_3]], blk := 176128 }
def nodecyclic_Tail_n1 {β : Type} : Icyclic_Tail_n1 → (Ycyclic_Tail_n1 → Option β) → Option β := fun (t3, o0_0, o0_1, o0_2, o0_3) exit => (exit ())
def nodeDcyclic_Tail_n1 (i : Icyclic_Tail_n1) : Option Ycyclic_Tail_n1 := nodecyclic_Tail_n1 i some
theorem nodecyclic_Tail_n1_nat (i : Icyclic_Tail_n1) (k : Ycyclic_Tail_n1 → Ans) : nodecyclic_Tail_n1 i k = bindO (nodeDcyclic_Tail_n1 i) k := by
  obtain ⟨t3, o0_0, o0_1, o0_2, o0_3⟩ := i
  simp only [nodeDcyclic_Tail_n1, nodecyclic_Tail_n1, bindO_cond, bindO_assoc, bindO_none, bindO_pure, bindO_elim, bindO_unP]
theorem nodecyclic_Tail_n1_ok (i : Icyclic_Tail_n1) (K : Ex → St → Ans) : codeI Try.tab envcyclic_Tail noHint (codeD Try.tab envcyclic_Tail noHint 0 64) 70 21 annLcyclic_Tail_n1 Lcyclic_Tail_n1 (weakP 0 (exk [3, 4, 8] [2] [(0, [4])]) K) (Scyclic_Tail_n1 i) = nodecyclic_Tail_n1 i (outcyclic_Tail_n1 i K) := by kernel_rfl
theorem GNcyclic_Tail_n1_ok : CSum Try.prog 21 Lcyclic_Tail_n1 (sumN deccyclic_Tail_n1 nodeDcyclic_Tail_n1 outcyclic_Tail_n1) := csum_node mixed tabOk envcyclic_TailOk 0 (exk [3, 4, 8] [2] [(0, [4])]) annLcyclic_Tail_n1_ok deccyclic_Tail_n1_ok nodecyclic_Tail_n1_ok nodecyclic_Tail_n1_nat
abbrev Icyclic_Tail_n1v1 := (Int) × (Int) × (Int) × (Int) × (Int)
abbrev Ycyclic_Tail_n1v1 := (Int)
def Scyclic_Tail_n1v1 : Icyclic_Tail_n1v1 → St := fun (t3, o0_0, o0_1, o0_2, o0_3) => { env := [(3, AV.int IntKind.i64 t3), (4, AV.ptr 0 0), (8, AV.int IntKind.i64 (0))], stk := [[]], H := [AE.Obj.cells [AV.int IntKind.u8 o0_0, AV.int IntKind.u8 o0_1, AV.int IntKind.u8 o0_2, AV.int IntKind.u8 o0_3]], blk := 176128 }
def deccyclic_Tail_n1v1 (s : St) : Option Icyclic_Tail_n1v1 := match s with
  | { env := [(3, AV.int IntKind.i64 t3), (4, AV.ptr 0 0), (8, AV.int IntKind.i64 r1)], stk := [[]], H := [AE.Obj.cells [AV.int IntKind.u8 o0_0, AV.int IntKind.u8 o0_1, AV.int IntKind.u8 o0_2, AV.int IntKind.u8 o0_3]], blk := 176128 } => cond (decide (r1 = 0)) (some (t3, o0_0, o0_1, o0_2, o0_3)) none
  | _ => none
theorem deccyclic_Tail_n1v1_ok (s : St) (x : Icyclic_Tail_n1v1) (h : deccyclic_Tail_n1v1 s = some x) : s = Scyclic_Tail_n1v1 x := by
  unfold deccyclic_Tail_n1v1 at h
  split at h
  · replace h := cond_noneO h; obtain ⟨hg, h⟩ := h; simp only [Bool.and_eq_true, decide_eq_true_eq] at hg; simp only [hg]; cases h; rfl
  · cases h
def outcyclic_Tail_n1v1 : Icyclic_Tail_n1v1 → (Ex → St → Ans) → Ycyclic_Tail_n1v1 → Ans := fun (t3, o0_0, o0_1, o0_2, o0_3) K => fun o0_0_y => K (Ex.norm) { env := [(3, AV.int IntKind.i64 t3), (4, AV.ptr 0 0), (8, AV.int IntKind.i64 (1))], stk := [[]], H := [AE.Obj.cells [AV.int IntKind.u8 o0_0_y, AV.int IntKind.u8 o0_1, AV.int IntKind.u8 o0_2, AV.int IntKind.u8 o0_3]], blk := 176129 }
def nodecyclic_Tail_n1v1 {β : Type} : Icyclic_Tail_n1v1 → (Ycyclic_Tail_n1v1 → Option β) → Option β := fun (t3, o0_0, o0_1, o0_2, o0_3) exit => (exit (IntKind.wrap IntKind.u8 (Int.fdiv t3 (1 : Int))))
def nodeDcyclic_Tail_n1v1 (i : Icyclic_Tail_n1v1) : Option Ycyclic_Tail_n1v1 := nodecyclic_Tail_n1v1 i some
theorem nodecyclic_Tail_n1v1_nat (i : Icyclic_Tail_n1v1) (k : Ycyclic_Tail_n1v1 → Ans) : nodecyclic_Tail_n1v1 i k = bindO (nodeDcyclic_Tail_n1v1 i) k := by
  obtain ⟨t3, o0_0, o0_1, o0_2, o0_3⟩ := i
  simp only [nodeDcyclic_Tail_n1v1, nodecyclic_Tail_n1v1, bindO_cond, bindO_assoc, bindO_none, bindO_pure, bindO_elim, bindO_unP]
theorem nodecyclic_Tail_n1v1_ok (i : Icyclic_Tail_n1v1) (K : Ex → St → Ans) : codeI Try.tab envcyclic_Tail noHint (codeD Try.tab envcyclic_Tail noHint 0 64) 70 21 annLcyclic_Tail_n1 Lcyclic_Tail_n1 (weakP 0 (exk [3, 4, 8] [2] [(0, [4])]) K) (Scyclic_Tail_n1v1 i) = nodecyclic_Tail_n1v1 i (outcyclic_Tail_n1v1 i K) := by kernel_rfl
theorem GNcyclic_Tail_n1v1_ok : CSum Try.prog 21 Lcyclic_Tail_n1 (sumN deccyclic_Tail_n1v1 nodeDcyclic_Tail_n1v1 outcyclic_Tail_n1v1) := csum_node mixed tabOk envcyclic_TailOk 0 (exk [3, 4, 8] [2] [(0, [4])]) annLcyclic_Tail_n1_ok deccyclic_Tail_n1v1_ok nodecyclic_Tail_n1v1_ok nodecyclic_Tail_n1v1_nat
abbrev Icyclic_Tail_n1v2 := (Int) × (Int) × (Int) × (Int) × (Int)
abbrev Ycyclic_Tail_n1v2 := (Int)
def Scyclic_Tail_n1v2 : Icyclic_Tail_n1v2 → St := fun (t3, o0_0, o0_1, o0_2, o0_3) => { env := [(3, AV.int IntKind.i64 t3), (4, AV.ptr 0 0), (8, AV.int IntKind.i64 (1))], stk := [[]], H := [AE.Obj.cells [AV.int IntKind.u8 o0_0, AV.int IntKind.u8 o0_1, AV.int IntKind.u8 o0_2, AV.int IntKind.u8 o0_3]], blk := 176128 }
def deccyclic_Tail_n1v2 (s : St) : Option Icyclic_Tail_n1v2 := match s with
  | { env := [(3, AV.int IntKind.i64 t3), (4, AV.ptr 0 0), (8, AV.int IntKind.i64 r1)], stk := [[]], H := [AE.Obj.cells [AV.int IntKind.u8 o0_0, AV.int IntKind.u8 o0_1, AV.int IntKind.u8 o0_2, AV.int IntKind.u8 o0_3]], blk := 176128 } => cond (decide (r1 = 1)) (some (t3, o0_0, o0_1, o0_2, o0_3)) none
  | _ => none
theorem deccyclic_Tail_n1v2_ok (s : St) (x : Icyclic_Tail_n1v2) (h : deccyclic_Tail_n1v2 s = some x) : s = Scyclic_Tail_n1v2 x := by
  unfold deccyclic_Tail_n1v2 at h
  split at h
  · replace h := cond_noneO h; obtain ⟨hg, h⟩ := h; simp only [Bool.and_eq_true, decide_eq_true_eq] at hg; simp only [hg]; cases h; rfl
  · cases h
def outcyclic_Tail_n1v2 : Icyclic_Tail_n1v2 → (Ex → St → Ans) → Ycyclic_Tail_n1v2 → Ans := fun (t3, o0_0, o0_1, o0_2, o0_3) K => fun o0_1_y => K (Ex.norm) { env := [(3, AV.int IntKind.i64 t3), (4, AV.ptr 0 0), (8, AV.int IntKind.i64 (2))], stk := [[]], H := [AE.Obj.cells [AV.int IntKind.u8 o0_0, AV.int IntKind.u8 o0_1_y, AV.int IntKind.u8 o0_2, AV.int IntKind.u8 o0_3]], blk := 176129 }
def nodecyclic_Tail_n1v2 {β : Type} : Icyclic_Tail_n1v2 → (Ycyclic_Tail_n1v2 → Option β) → Option β := fun (t3, o0_0, o0_1, o0_2, o0_3) exit => (exit (IntKind.wrap IntKind.u8 (Int.fdiv t3 (256 : Int))))
def nodeDcyclic_Tail_n1v2 (i : Icyclic_Tail_n1v2) : Option Ycyclic_Tail_n1v2 := nodecyclic_Tail_n1v2 i some
theorem nodecyclic_Tail_n1v2_nat (i : Icyclic_Tail_n1v2) (k : Ycyclic_Tail_n1v2 → Ans) : nodecyclic_Tail_n1v2 i k = bindO (nodeDcyclic_Tail_n1v2 i) k := by
  obtain ⟨t3, o0_0, o0_1, o0_2, o0_3⟩ := i
  simp only [nodeDcyclic_Tail_n1v2, nodecyclic_Tail_n1v2, bindO_cond, bindO_assoc, bindO_none, bindO_pure, bindO_elim, bindO_unP]
theorem nodecyclic_Tail_n1v2_ok (i : Icyclic_Tail_n1v2) (K : Ex → St → Ans) : codeI Try.tab envcyclic_Tail noHint (codeD Try.tab envcyclic_Tail noHint 0 64) 70 21 annLcyclic_Tail_n1 Lcyclic_Tail_n1 (weakP 0 (exk [3, 4, 8] [2] [(0, [4])]) K) (Scyclic_Tail_n1v2 i) = nodecyclic_Tail_n1v2 i (outcyclic_Tail_n1v2 i K) := by kernel_rfl
theorem GNcyclic_Tail_n1v2_ok : CSum Try.prog 21 Lcyclic_Tail_n1 (sumN deccyclic_Tail_n1v2 nodeDcyclic_Tail_n1v2 outcyclic_Tail_n1v2) := csum_node mixed tabOk envcyclic_TailOk 0 (exk [3, 4, 8] [2] [(0, [4])]) annLcyclic_Tail_n1_ok deccyclic_Tail_n1v2_ok nodecyclic_Tail_n1v2_ok nodecyclic_Tail_n1v2_nat
abbrev Icyclic_Tail_n1v3 := (Int) × (Int) × (Int) × (Int) × (Int)
abbrev Ycyclic_Tail_n1v3 := (Int)
def Scyclic_Tail_n1v3 : Icyclic_Tail_n1v3 → St := fun (t3, o0_0, o0_1, o0_2, o0_3) => { env := [(3, AV.int IntKind.i64 t3), (4, AV.ptr 0 0), (8, AV.int IntKind.i64 (2))], stk := [[]], H := [AE.Obj.cells [AV.int IntKind.u8 o0_0, AV.int IntKind.u8 o0_1, AV.int IntKind.u8 o0_2, AV.int IntKind.u8 o0_3]], blk := 176128 }
def deccyclic_Tail_n1v3 (s : St) : Option Icyclic_Tail_n1v3 := match s with
  | { env := [(3, AV.int IntKind.i64 t3), (4, AV.ptr 0 0), (8, AV.int IntKind.i64 r1)], stk := [[]], H := [AE.Obj.cells [AV.int IntKind.u8 o0_0, AV.int IntKind.u8 o0_1, AV.int IntKind.u8 o0_2, AV.int IntKind.u8 o0_3]], blk := 176128 } => cond (decide (r1 = 2)) (some (t3, o0_0, o0_1, o0_2, o0_3)) none
  | _ => none
theorem deccyclic_Tail_n1v3_ok (s : St) (x : Icyclic_Tail_n1v3) (h : deccyclic_Tail_n1v3 s = some x) : s = Scyclic_Tail_n1v3 x := by
  unfold deccyclic_Tail_n1v3 at h
  split at h
  · replace h := cond_noneO h; obtain ⟨hg, h⟩ := h; simp only [Bool.and_eq_true, decide_eq_true_eq] at hg; simp only [hg]; cases h; rfl
  · cases h
def outcyclic_Tail_n1v3 : Icyclic_Tail_n1v3 → (Ex → St → Ans) → Ycyclic_Tail_n1v3 → Ans := fun (t3, o0_0, o0_1, o0_2, o0_3) K => fun o0_2_y => K (Ex.norm) { env := [(3, AV.int IntKind.i64 t3), (4, AV.ptr 0 0), (8, AV.int IntKind.i64 (3))], stk := [[]], H := [AE.Obj.cells [AV.int IntKind.u8 o0_0, AV.int IntKind.u8 o0_1, AV.int IntKind.u8 o0_2_y, AV.int IntKind.u8 o0_3]], blk := 176129 }
def nodecyclic_Tail_n1v3 {β : Type} : Icyclic_Tail_n1v3 → (Ycyclic_Tail_n1v3 → Option β) → Option β := fun (t3, o0_0, o0_1, o0_2, o0_3) exit => (exit (IntKind.wrap IntKind.u8 (Int.fdiv t3 (65536 : Int))))
def nodeDcyclic_Tail_n1v3 (i : Icyclic_Tail_n1v3) : Option Ycyclic_Tail_n1v3 := nodecyclic_Tail_n1v3 i some
theorem nodecyclic_Tail_n1v3_nat (i : Icyclic_Tail_n1v3) (k : Ycyclic_Tail_n1v3 → Ans) : nodecyclic_Tail_n1v3 i k = bindO (nodeDcyclic_Tail_n1v3 i) k := by
  obtain ⟨t3, o0_0, o0_1, o0_2, o0_3⟩ := i
  simp only [nodeDcyclic_Tail_n1v3, nodecyclic_Tail_n1v3, bindO_cond, bindO_assoc, bindO_none, bindO_pure, bindO_elim, bindO_unP]
theorem nodecyclic_Tail_n1v3_ok (i : Icyclic_Tail_n1v3) (K : Ex → St → Ans) : codeI Try.tab envcyclic_Tail noHint (codeD Try.tab envcyclic_Tail noHint 0 64) 70 21 annLcyclic_Tail_n1 Lcyclic_Tail_n1 (weakP 0 (exk [3, 4, 8] [2] [(0, [4])]) K) (Scyclic_Tail_n1v3 i) = nodecyclic_Tail_n1v3 i (outcyclic_Tail_n1v3 i K) := by kernel_rfl
theorem GNcyclic_Tail_n1v3_ok : CSum Try.prog 21 Lcyclic_Tail_n1 (sumN deccyclic_Tail_n1v3 nodeDcyclic_Tail_n1v3 outcyclic_Tail_n1v3) := csum_node mixed tabOk envcyclic_TailOk 0 (exk [3, 4, 8] [2] [(0, [4])]) annLcyclic_Tail_n1_ok deccyclic_Tail_n1v3_ok nodecyclic_Tail_n1v3_ok nodecyclic_Tail_n1v3_nat
abbrev Icyclic_Tail_n1v4 := (Int) × (Int) × (Int) × (Int) × (Int)
abbrev Ycyclic_Tail_n1v4 := (Int)
def Scyclic_Tail_n1v4 : Icyclic_Tail_n1v4 → St := fun (t3, o0_0, o0_1, o0_2, o0_3) => { env := [(3, AV.int IntKind.i64 t3), (4, AV.ptr 0 0), (8, AV.int IntKind.i64 (3))], stk := [[]], H := [AE.Obj.cells [AV.int IntKind.u8 o0_0, AV.int IntKind.u8 o0_1, AV.int IntKind.u8 o0_2, AV.int IntKind.u8 o0_3]], blk := 176128 }
def deccyclic_Tail_n1v4 (s : St) : Option Icyclic_Tail_n1v4 := match s with
  | { env := [(3, AV.int IntKind.i64 t3), (4, AV.ptr 0 0), (8, AV.int IntKind.i64 r1)], stk := [[]], H := [AE.Obj.cells [AV.int IntKind.u8 o0_0, AV.int IntKind.u8 o0_1, AV.int IntKind.u8 o0_2, AV.int IntKind.u8 o0_3]], blk := 176128 } => cond (decide (r1 = 3)) (some (t3, o0_0, o0_1, o0_2, o0_3)) none
  | _ => none
theorem deccyclic_Tail_n1v4_ok (s : St) (x : Icyclic_Tail_n1v4) (h : deccyclic_Tail_n1v4 s = some x) : s = Scyclic_Tail_n1v4 x := by
  unfold deccyclic_Tail_n1v4 at h
  split at h
  · replace h := cond_noneO h; obtain ⟨hg, h⟩ := h; simp only [Bool.and_eq_true, decide_eq_true_eq] at hg; simp only [hg]; cases h; rfl
  · cases h
def outcyclic_Tail_n1v4 : Icyclic_Tail_n1v4 → (Ex → St → Ans) → Ycyclic_Tail_n1v4 → Ans := fun (t3, o0_0, o0_1, o0_2, o0_3) K => fun o0_3_y => K (Ex.norm) { env := [(3, AV.int IntKind.i64 t3), (4, AV.ptr 0 0), (8, AV.int IntKind.i64 (4))], stk := [[]], H := [AE.Obj.cells [AV.int IntKind.u8 o0_0, AV.int IntKind.u8 o0_1, AV.int IntKind.u8 o0_2, AV.int IntKind.u8 o0_3_y]], blk := 176129 }
def nodecyclic_Tail_n1v4 {β : Type} : Icyclic_Tail_n1v4 → (Ycyclic_Tail_n1v4 → Option β) → Option β := fun (t3, o0_0, o0_1, o0_2, o0_3) exit => (exit (IntKind.wrap IntKind.u8 (Int.fdiv t3 (16777216 : Int))))
def nodeDcyclic_Tail_n1v4 (i : Icyclic_Tail_n1v4) : Option Ycyclic_Tail_n1v4 := nodecyclic_Tail_n1v4 i some
theorem nodecyclic_Tail_n1v4_nat (i : Icyclic_Tail_n1v4) (k : Ycyclic_Tail_n1v4 → Ans) : nodecyclic_Tail_n1v4 i k = bindO (nodeDcyclic_Tail_n1v4 i) k := by
  obtain ⟨t3, o0_0, o0_1, o0_2, o0_3⟩ := i
  simp only [nodeDcyclic_Tail_n1v4, nodecyclic_Tail_n1v4, bindO_cond, bindO_assoc, bindO_none, bindO_pure, bindO_elim, bindO_unP]
theorem nodecyclic_Tail_n1v4_ok (i : Icyclic_Tail_n1v4) (K : Ex → St → Ans) : codeI Try.tab envcyclic_Tail noHint (codeD Try.tab envcyclic_Tail noHint 0 64) 70 21 annLcyclic_Tail_n1 Lcyclic_Tail_n1 (weakP 0 (exk [3, 4, 8] [2] [(0, [4])]) K) (Scyclic_Tail_n1v4 i) = nodecyclic_Tail_n1v4 i (outcyclic_Tail_n1v4 i K) := by kernel_rfl
theorem GNcyclic_Tail_n1v4_ok : CSum Try.prog 21 Lcyclic_Tail_n1 (sumN deccyclic_Tail_n1v4 nodeDcyclic_Tail_n1v4 outcyclic_Tail_n1v4) := csum_node mixed tabOk envcyclic_TailOk 0 (exk [3, 4, 8] [2] [(0, [4])]) annLcyclic_Tail_n1_ok deccyclic_Tail_n1v4_ok nodecyclic_Tail_n1v4_ok nodecyclic_Tail_n1v4_nat
noncomputable def Gcyclic_Tail_n1 : (Ex → St → Ans) → St → Ans := (altN deccyclic_Tail_n1 (sumN deccyclic_Tail_n1 nodeDcyclic_Tail_n1 outcyclic_Tail_n1) (altN deccyclic_Tail_n1v1 (sumN deccyclic_Tail_n1v1 nodeDcyclic_Tail_n1v1 outcyclic_Tail_n1v1) (altN deccyclic_Tail_n1v2 (sumN deccyclic_Tail_n1v2 nodeDcyclic_Tail_n1v2 outcyclic_Tail_n1v2) (altN deccyclic_Tail_n1v3 (sumN deccyclic_Tail_n1v3 nodeDcyclic_Tail_n1v3 outcyclic_Tail_n1v3) (sumN deccyclic_Tail_n1v4 nodeDcyclic_Tail_n1v4 outcyclic_Tail_n1v4)))))
theorem Gcyclic_Tail_n1_ok : CSum Try.prog 21 Lcyclic_Tail_n1 Gcyclic_Tail_n1 := (csum_altN GNcyclic_Tail_n1_ok (csum_altN GNcyclic_Tail_n1v1_ok (csum_altN GNcyclic_Tail_n1v2_ok (csum_altN GNcyclic_Tail_n1v3_ok GNcyclic_Tail_n1v4_ok))))
noncomputable def Lcyclic_Tail_n0 : Code := codeAt [1, 1, 1, 0, 1] bcyclic_Tail
noncomputable def annLcyclic_Tail_n0 : Ann := (.block (.at 0 [3, 4, 8] (.loop (.cut 0 [3, 4, 8] Gcyclic_Tail_n1))))
theorem annLcyclic_Tail_n0_ok : AnnOk Try.prog 21 Lcyclic_Tail_n0 annLcyclic_Tail_n0 := (annOk_at Gcyclic_Tail_n1_ok)
abbrev Icyclic_Tail_n0 := (Int)
abbrev Ycyclic_Tail_n0 := (Int) × (Int) × (Int) × (Int)
def Scyclic_Tail_n0 : Icyclic_Tail_n0 → St := fun t3 => { env := [(3, AV.int IntKind.i64 t3), (4, AV.ptr 0 0), (8, AV.int IntKind.i64 (0))], stk := [[]], H := [AE.Obj.cells [AV.int IntKind.u8 (0), AV.int IntKind.u8 (0), AV.int IntKind.u8 (0), AV.int IntKind.u8 (0)]], blk := 176128 }
def deccyclic_Tail_n0 (s : St) : Option Icyclic_Tail_n0 := match s with
  | { env := [(3, AV.int IntKind.i64 t3), (4, AV.ptr 0 0), (8, AV.int IntKind.i64 r1)], stk := [[]], H := [AE.Obj.cells [AV.int IntKind.u8 r2, AV.int IntKind.u8 r3, AV.int IntKind.u8 r4, AV.int IntKind.u8 r5]], blk := 176128 } => cond (decide (r1 = 0) && decide (r2 = 0) && decide (r3 = 0) && decide (r4 = 0) && decide (r5 = 0)) (some (t3)) none
  | _ => none
theorem deccyclic_Tail_n0_ok (s : St) (x : Icyclic_Tail_n0) (h : deccyclic_Tail_n0 s = some x) : s = Scyclic_Tail_n0 x := by
  unfold deccyclic_Tail_n0 at h
  split at h
  · replace h := cond_noneO h; obtain ⟨hg, h⟩ := h; simp only [Bool.and_eq_true, decide_eq_true_eq] at hg; simp only [hg]; cases h; rfl
  · cases h
def outcyclic_Tail_n0 : Icyclic_Tail_n0 → (Ex → St → Ans) → Ycyclic_Tail_n0 → Ans := fun t3 K => unP fun o0_0_y => unP fun o0_1_y => unP fun o0_2_y o0_3_y => K (Ex.norm) { env := [(4, AV.ptr 0 0)], stk := [[]], H := [AE.Obj.cells [AV.int IntKind.u8 o0_0_y, AV.int IntKind.u8 o0_1_y, AV.int IntKind.u8 o0_2_y, AV.int IntKind.u8 o0_3_y]], blk := 176128 }
def nodecyclic_Tail_n0 {β : Type} : Icyclic_Tail_n0 → (Ycyclic_Tail_n0 → Option β) → Option β := fun t3 exit => (bindO (nodeDcyclic_Tail_n1v1 (t3, (0 : Int), (0 : Int), (0 : Int), (0 : Int))) fun o0_0 => (bindO (nodeDcyclic_Tail_n1v2 (t3, o0_0, (0 : Int), (0 : Int), (0 : Int))) fun o0_1 => (bindO (nodeDcyclic_Tail_n1v3 (t3, o0_0, o0_1, (0 : Int), (0 : Int))) fun o0_2 => (bindO (nodeDcyclic_Tail_n1v4 (t3, o0_0, o0_1, o0_2, (0 : Int))) fun o0_3 => (bindO (nodeDcyclic_Tail_n1 (t3, o0_0, o0_1, o0_2, o0_3)) fun _ => (exit (o0_0, o0_1, o0_2, o0_3)))))))
def nodeDcyclic_Tail_n0 (i : Icyclic_Tail_n0) : Option Ycyclic_Tail_n0 := nodecyclic_Tail_n0 i some
theorem nodecyclic_Tail_n0_nat (i : Icyclic_Tail_n0) (k : Ycyclic_Tail_n0 → Ans) : nodecyclic_Tail_n0 i k = bindO (nodeDcyclic_Tail_n0 i) k := by
  obtain z := i
  simp only [nodeDcyclic_Tail_n0, nodecyclic_Tail_n0, bindO_cond, bindO_assoc, bindO_none, bindO_pure, bindO_elim, bindO_unP]
theorem nodecyclic_Tail_n0_ok (i : Icyclic_Tail_n0) (K : Ex → St → Ans) : codeI Try.tab envcyclic_Tail noHint (codeD Try.tab envcyclic_Tail noHint 0 64) 70 21 annLcyclic_Tail_n0 Lcyclic_Tail_n0 (weakP 0 (exk [4] [2] []) K) (Scyclic_Tail_n0 i) = nodecyclic_Tail_n0 i (outcyclic_Tail_n0 i K) := by kernel_rfl
theorem GNcyclic_Tail_n0_ok : CSum Try.prog 21 Lcyclic_Tail_n0 (sumN deccyclic_Tail_n0 nodeDcyclic_Tail_n0 outcyclic_Tail_n0) := csum_node mixed tabOk envcyclic_TailOk 0 (exk [4] [2] []) annLcyclic_Tail_n0_ok deccyclic_Tail_n0_ok nodecyclic_Tail_n0_ok nodecyclic_Tail_n0_nat
noncomputable def Gcyclic_Tail_n0 : (Ex → St → Ans) → St → Ans := (sumN deccyclic_Tail_n0 nodeDcyclic_Tail_n0 outcyclic_Tail_n0)
theorem Gcyclic_Tail_n0_ok : CSum Try.prog 21 Lcyclic_Tail_n0 Gcyclic_Tail_n0 := GNcyclic_Tail_n0_ok
noncomputable def anncyclic_Tail : Ann := (.seq .none (.seq .none (.seq .none (.seq (.seq .none (.cut 0 [3, 4, 8] Gcyclic_Tail_n0)) .none))))
theorem anncyclic_Tail_ok : AnnOk Try.prog 21 bcyclic_Tail anncyclic_Tail := ⟨(annOk_none _ _ _), ⟨(annOk_none _ _ _), ⟨(annOk_none _ _ _), ⟨⟨(annOk_none _ _ _), Gcyclic_Tail_n0_ok⟩, (annOk_none _ _ _)⟩⟩⟩⟩
abbrev Acyclic_Tail := (List UInt8)
abbrev Ycyclic_Tail := (List UInt8)
def fncyclic_Tail {β : Type} : Acyclic_Tail → (Ycyclic_Tail → Option β) → Option β := fun a0 exit => (bindO (fnDcyclic_Of (a0)) fun r => (bindO (nodeDcyclic_Tail_n0 (r)) (unP fun o0_0 => unP fun o0_1 => unP fun o0_2 o0_3 => (exit (bytesOf [o0_0, o0_1, o0_2, o0_3])))))
def fnDcyclic_Tail (a : Acyclic_Tail) : Option Ycyclic_Tail := fncyclic_Tail a some
theorem fncyclic_Tail_nat (a : Acyclic_Tail) (k : Ycyclic_Tail → Ans) : fncyclic_Tail a k = bindO (fnDcyclic_Tail a) k := by
  obtain z := a
  simp only [fnDcyclic_Tail, fncyclic_Tail, bindO_cond, bindO_assoc, bindO_none, bindO_pure, bindO_elim, bindO_unP]
def argscyclic_Tail : Acyclic_Tail → List AV := fun a0 => [AV.str a0]
def decAcyclic_Tail (l : List AV) : Option Acyclic_Tail := match l with
  | [AV.str a0] => some (a0)
  | _ => none
theorem decAcyclic_Tail_ok (l : List AV) (a : Acyclic_Tail) (h : decAcyclic_Tail l = some a) : l = argscyclic_Tail a := by
  unfold decAcyclic_Tail at h
  split at h
  · cases h; rfl
  · cases h
def rendcyclic_Tail : Acyclic_Tail → Ycyclic_Tail → AV := fun a0 => fun r_y => AV.str r_y
theorem rendcyclic_Tail_ok : ∀ (a : Acyclic_Tail) (y : Ycyclic_Tail), (rendcyclic_Tail a y).closed1 = true := by
  rintro z y <;> first | rfl | exact Empty.elim y
theorem fncyclic_Tail_ok (a : Acyclic_Tail) : fnE Try.tab envcyclic_Tail noHint 0 70 43 Try.f43.ntmps Try.f43.results.toList anncyclic_Tail bcyclic_Tail (argscyclic_Tail a) [] (fun v _ => some (v, [])) = fncyclic_Tail a (fun y => some (rendcyclic_Tail a y, [])) := by kernel_rfl
def vFcyclic_Tail (a : Acyclic_Tail) (K : AV → Ans) : Ans := bindO (fnDcyclic_Tail a) fun y => K (rendcyclic_Tail a y)
def Fcyclic_Tail : List AV → (AV → Ans) → Ans := fun l K => bindO (decAcyclic_Tail l) fun a => vFcyclic_Tail a K
theorem Fcyclic_Tail_ok : PureOk Try.prog 43 Fcyclic_Tail := pure_mkD (hint := noHint) (d := 0) (n := 70) mixed tabOk envcyclic_TailOk Try.func43 (bodySome (by kernel_rfl)) (by decide +kernel) anncyclic_Tail_ok decAcyclic_Tail_ok fncyclic_Tail_ok fncyclic_Tail_nat rendcyclic_Tail_ok
--@ logrec_tail
noncomputable def envlogrec_tail : Env := [(43, .pure Fcyclic_Tail)]
theorem envlogrec_tailOk : EnvOk Try.prog envlogrec_tail := EnvOk.cons Fcyclic_Tail_ok (EnvOk.nil)
noncomputable def blogrec_tail : Code := Try.f26.body.getD .skip
noncomputable def annlogrec_tail : Ann := .none
theorem annlogrec_tail_ok : AnnOk Try.prog 9 blogrec_tail annlogrec_tail := (annOk_none _ _ _)
abbrev Alogrec_tail := (List UInt8) × (List UInt8)
abbrev Ylogrec_tail := (List UInt8)
def fnlogrec_tail {β : Type} : Alogrec_tail → (Ylogrec_tail → Option β) → Option β := fun (a0, a1) exit => (bif Nat.ble (List.length a0 + List.length a1) (9223372036854775807 : Nat) then (bindO (fnDcyclic_Tail (a0 ++ a1)) fun r => (exit (r))) else none)
def fnDlogrec_tail (a : Alogrec_tail) : Option Ylogrec_tail := fnlogrec_tail a some
theorem fnlogrec_tail_nat (a : Alogrec_tail) (k : Ylogrec_tail → Ans) : fnlogrec_tail a k = bindO (fnDlogrec_tail a) k := by
  obtain ⟨a0, a1⟩ := a
  simp only [fnDlogrec_tail, fnlogrec_tail, bindO_cond, bindO_assoc, bindO_none, bindO_pure, bindO_elim, bindO_unP]
def argslogrec_tail : Alogrec_tail → List AV := fun (a0, a1) => [AV.str a0, AV.str a1]
def decAlogrec_tail (l : List AV) : Option Alogrec_tail := match l with
  | [AV.str a0, AV.str a1] => some (a0, a1)
  | _ => none
theorem decAlogrec_tail_ok (l : List AV) (a : Alogrec_tail) (h : decAlogrec_tail l = some a) : l = argslogrec_tail a := by
  unfold decAlogrec_tail at h
  split at h
  · cases h; rfl
  · cases h
def rendlogrec_tail : Alogrec_tail → Ylogrec_tail → AV := fun (a0, a1) => fun r_y => AV.str r_y
theorem rendlogrec_tail_ok : ∀ (a : Alogrec_tail) (y : Ylogrec_tail), (rendlogrec_tail a y).closed1 = true := by
  rintro ⟨a0, a1⟩ y <;> first | rfl | exact Empty.elim y
theorem fnlogrec_tail_ok (a : Alogrec_tail) : fnE Try.tab envlogrec_tail noHint 0 70 26 Try.f26.ntmps Try.f26.results.toList annlogrec_tail blogrec_tail (argslogrec_tail a) [] (fun v _ => some (v, [])) = fnlogrec_tail a (fun y => some (rendlogrec_tail a y, [])) := by kernel_rfl
def vFlogrec_tail (a : Alogrec_tail) (K : AV → Ans) : Ans := bindO (fnDlogrec_tail a) fun y => K (rendlogrec_tail a y)
def Flogrec_tail : List AV → (AV → Ans) → Ans := fun l K => bindO (decAlogrec_tail l) fun a => vFlogrec_tail a K
theorem Flogrec_tail_ok : PureOk Try.prog 26 Flogrec_tail := pure_mkD (hint := noHint) (d := 0) (n := 70) mixed tabOk envlogrec_tailOk Try.func26 (bodySome (by kernel_rfl)) (by decide +kernel) annlogrec_tail_ok decAlogrec_tail_ok fnlogrec_tail_ok fnlogrec_tail_nat rendlogrec_tail_ok
--@ region_Pad
noncomputable def envregion_Pad : Env := [(33, .pure Fstrings_Repeat)]
theorem envregion_PadOk : EnvOk Try.prog envregion_Pad := EnvOk.cons Fstrings_Repeat_ok (EnvOk.nil)
noncomputable def bregion_Pad : Code := Try.f25.body.getD .skip
noncomputable def annregion_Pad : Ann := .none
theorem annregion_Pad_ok : AnnOk Try.prog 15 bregion_Pad annregion_Pad := (annOk_none _ _ _)
abbrev Aregion_Pad := (List UInt8)
abbrev Yregion_Pad := (List UInt8)
def fnregion_Pad {β : Type} : Aregion_Pad → (Yregion_Pad → Option β) → Option β := fun a0 exit => (bif decide (Int.tmod (↑(List.length a0) : Int) (64 : Int) > (0 : Int)) then (bindO (fnDstrings_Repeat ([(0 : UInt8)], IntKind.wrap IntKind.i64 ((64 : Int) - Int.tmod (↑(List.length a0) : Int) (64 : Int)))) fun r => (bif Nat.ble (List.length a0 + List.length r) (9223372036854775807 : Nat) then (exit (a0 ++ r)) else none)) else (exit (a0)))
def fnDregion_Pad (a : Aregion_Pad) : Option Yregion_Pad := fnregion_Pad a some
theorem fnregion_Pad_nat (a : Aregion_Pad) (k : Yregion_Pad → Ans) : fnregion_Pad a k = bindO (fnDregion_Pad a) k := by
  obtain z := a
  simp only [fnDregion_Pad, fnregion_Pad, bindO_cond, bindO_assoc, bindO_none, bindO_pure, bindO_elim, bindO_unP]
def argsregion_Pad : Aregion_Pad → List AV := fun a0 => [AV.str a0]
def decAregion_Pad (l : List AV) : Option Aregion_Pad := match l with
  | [AV.str a0] => some (a0)
  | _ => none
theorem decAregion_Pad_ok (l : List AV) (a : Aregion_Pad) (h : decAregion_Pad l = some a) : l = argsregion_Pad a := by
  unfold decAregion_Pad at h
  split at h
  · cases h; rfl
  · cases h
def rendregion_Pad : Aregion_Pad → Yregion_Pad → AV := fun a0 => fun r_y => AV.str r_y
theorem rendregion_Pad_ok : ∀ (a : Aregion_Pad) (y : Yregion_Pad), (rendregion_Pad a y).closed1 = true := by
  rintro z y <;> first | rfl | exact Empty.elim y
theorem fnregion_Pad_ok (a : Aregion_Pad) : fnE Try.tab envregion_Pad noHint 0 70 25 Try.f25.ntmps Try.f25.results.toList annregion_Pad bregion_Pad (argsregion_Pad a) [] (fun v _ => some (v, [])) = fnregion_Pad a (fun y => some (rendregion_Pad a y, [])) := by kernel_rfl
def vFregion_Pad (a : Aregion_Pad) (K : AV → Ans) : Ans := bindO (fnDregion_Pad a) fun y => K (rendregion_Pad a y)
def Fregion_Pad : List AV → (AV → Ans) → Ans := fun l K => bindO (decAregion_Pad l) fun a => vFregion_Pad a K
theorem Fregion_Pad_ok : PureOk Try.prog 25 Fregion_Pad := pure_mkD (hint := noHint) (d := 0) (n := 70) mixed tabOk envregion_PadOk Try.func25 (bodySome (by kernel_rfl)) (by decide +kernel) annregion_Pad_ok decAregion_Pad_ok fnregion_Pad_ok fnregion_Pad_nat rendregion_Pad_ok
end Go.Proofs.R4

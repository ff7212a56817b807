/- What the functions that DiskDoesSaid reaches compute: part 1. -/
import Derived.Test.YtpefpiibinbjgaaAe3
import Derived.Test.YtpefpiibinbjgaaProg
import Derived.Test.YtpefpiibinbjgaaChecked
import Derived.Eval
import Derived.Shelf.Strings.Builder1
import Derived.Shelf.Strings.Builder2
import Derived.Shelf.Strings.BuilderF
import Derived.Shelf.Strings.Prefix
import Derived.Shelf.Bits.Mul64
import Derived.Shelf.Strings.Repeat
set_option linter.unusedVariables false
set_option linter.unusedSimpArgs false
namespace Go.Proofs
def Try.tab : Go.AE.Tab := [
  (1, ⟨.sc, 1, 8, [.nilf], none⟩),
  (2, ⟨.sc, 1, 8, [.int .i64 0], some (.int .i64)⟩),
  (3, ⟨.sc, 1, 8, [.int .i64 0], some (.int .i64)⟩),
  (4, ⟨.sc, 1, 1, [.bool false], some .bool⟩),
  (5, ⟨.sc, 1, 1, [.int .u8 0], some (.int .u8)⟩),
  (7, ⟨.struct [(2, 0), (3, 1), (4, 2), (6, 3)], 4, 24, [.int .i64 0, .int .i64 0, .bool false, .int .u8 0], some (.st (.pair (.int .i64) (.pair (.int .i64) (.pair .bool (.int .u8)))))⟩),
  (9, ⟨.sc, 1, 16, [.str []], some .str⟩),
  (12, ⟨.sc, 1, 8, [.int .u64 0], some (.int .u64)⟩),
  (20, ⟨.sc, 1, 16, [.nili], none⟩),
  (21, ⟨.sc, 1, 4, [.int .i32 0], some (.int .i32)⟩),
  (22, ⟨.slice 32, 1, 24, [.nils], some (.list (.st (.pair (.int .i64) .str)))⟩),
  (23, ⟨.slice 3, 1, 24, [.nils], some (.list (.int .i64))⟩),
  (24, ⟨.sc, 1, 8, [.nilf], none⟩),
  (25, ⟨.ptr 93, 1, 8, [.nilp], none⟩),
  (26, ⟨.sc, 1, 8, [.nilf], none⟩),
  (27, ⟨.array 8 9, 8, 128, [.str [], .str [], .str [], .str [], .str [], .str [], .str [], .str []], some (.st (.pair .str (.pair .str (.pair .str (.pair .str (.pair .str (.pair .str (.pair .str .str))))))))⟩),
  (28, ⟨.slice 5, 1, 24, [.nils], some (.list (.int .u8))⟩),
  (29, ⟨.sc, 1, 8, [.int .i64 0], some (.int .i64)⟩),
  (30, ⟨.sc, 1, 8, [.nilf], none⟩),
  (31, ⟨.struct [(3, 0), (9, 1)], 2, 24, [.int .i64 0, .str []], some (.st (.pair (.int .i64) .str))⟩),
  (32, ⟨.struct [(3, 0), (9, 1)], 2, 24, [.int .i64 0, .str []], some (.st (.pair (.int .i64) .str))⟩),
  (33, ⟨.sc, 1, 8, [.nilf], none⟩),
  (34, ⟨.sc, 1, 8, [.nilf], none⟩),
  (35, ⟨.sc, 1, 8, [.nilf], none⟩),
  (37, ⟨.sc, 1, 8, [.nilf], none⟩),
  (38, ⟨.sc, 1, 8, [.nilf], none⟩),
  (39, ⟨.slice 45, 1, 24, [.nils], some (.list (.st (.pair (.int .i64) (.pair (.int .i64) (.pair .str (.list (.int .i64)))))))⟩),
  (40, ⟨.sc, 1, 8, [.nilf], none⟩),
  (41, ⟨.ptr 48, 1, 8, [.nilp], none⟩),
  (42, ⟨.sc, 1, 8, [.nilf], none⟩),
  (43, ⟨.sc, 1, 8, [.nilf], none⟩),
  (44, ⟨.struct [(3, 0), (3, 1), (9, 2), (23, 3)], 4, 56, [.int .i64 0, .int .i64 0, .str [], .nils], some (.st (.pair (.int .i64) (.pair (.int .i64) (.pair .str (.list (.int .i64))))))⟩),
  (45, ⟨.struct [(3, 0), (3, 1), (9, 2), (23, 3)], 4, 56, [.int .i64 0, .int .i64 0, .str [], .nils], some (.st (.pair (.int .i64) (.pair (.int .i64) (.pair .str (.list (.int .i64))))))⟩),
  (46, ⟨.slice 9, 1, 24, [.nils], some (.list .str)⟩),
  (47, ⟨.struct [(46, 0), (46, 1), (22, 2), (3, 3), (23, 4), (3, 5), (4, 6)], 7, 120, [.nils, .nils, .nils, .int .i64 0, .nils, .int .i64 0, .bool false], some (.st (.pair (.list .str) (.pair (.list .str) (.pair (.list (.st (.pair (.int .i64) .str))) (.pair (.int .i64) (.pair (.list (.int .i64)) (.pair (.int .i64) .bool)))))))⟩),
  (48, ⟨.struct [(46, 0), (46, 1), (22, 2), (3, 3), (23, 4), (3, 5), (4, 6)], 7, 120, [.nils, .nils, .nils, .int .i64 0, .nils, .int .i64 0, .bool false], some (.st (.pair (.list .str) (.pair (.list .str) (.pair (.list (.st (.pair (.int .i64) .str))) (.pair (.int .i64) (.pair (.list (.int .i64)) (.pair (.int .i64) .bool)))))))⟩),
  (49, ⟨.sc, 1, 8, [.nilf], none⟩),
  (50, ⟨.sc, 1, 8, [.nilf], none⟩),
  (51, ⟨.sc, 1, 8, [.nilf], none⟩),
  (52, ⟨.ptr 101, 1, 8, [.nilp], none⟩),
  (54, ⟨.sc, 1, 8, [.nilf], none⟩),
  (55, ⟨.sc, 1, 8, [.nilf], none⟩),
  (56, ⟨.sc, 1, 8, [.nilf], none⟩),
  (57, ⟨.sc, 1, 8, [.nilf], none⟩),
  (59, ⟨.sc, 1, 8, [.nilf], none⟩),
  (61, ⟨.sc, 1, 8, [.nilf], none⟩),
  (62, ⟨.sc, 1, 8, [.nilf], none⟩),
  (63, ⟨.ptr 112, 1, 8, [.nilp], none⟩),
  (64, ⟨.sc, 1, 8, [.nilf], none⟩),
  (65, ⟨.sc, 1, 8, [.nilf], none⟩),
  (67, ⟨.sc, 1, 8, [.nilf], none⟩),
  (68, ⟨.sc, 1, 8, [.nilf], none⟩),
  (69, ⟨.slice 77, 1, 24, [.nils], some (.list (.st (.pair (.int .i64) (.pair (.int .i64) (.int .i64)))))⟩),
  (70, ⟨.ptr 118, 1, 8, [.nilp], none⟩),
  (71, ⟨.sc, 1, 8, [.nilf], none⟩),
  (72, ⟨.ptr 75, 1, 8, [.nilp], none⟩),
  (73, ⟨.slice 81, 1, 24, [.nils], some (.list (.st (.pair (.int .i64) (.int .i64))))⟩),
  (74, ⟨.struct [(73, 0), (73, 1)], 2, 48, [.nils, .nils], some (.st (.pair (.list (.st (.pair (.int .i64) (.int .i64)))) (.list (.st (.pair (.int .i64) (.int .i64))))))⟩),
  (75, ⟨.struct [(73, 0), (73, 1)], 2, 48, [.nils, .nils], some (.st (.pair (.list (.st (.pair (.int .i64) (.int .i64)))) (.list (.st (.pair (.int .i64) (.int .i64))))))⟩),
  (76, ⟨.struct [(3, 0), (3, 1), (3, 2)], 3, 24, [.int .i64 0, .int .i64 0, .int .i64 0], some (.st (.pair (.int .i64) (.pair (.int .i64) (.int .i64))))⟩),
  (77, ⟨.struct [(3, 0), (3, 1), (3, 2)], 3, 24, [.int .i64 0, .int .i64 0, .int .i64 0], some (.st (.pair (.int .i64) (.pair (.int .i64) (.int .i64))))⟩),
  (78, ⟨.sc, 1, 8, [.nilf], none⟩),
  (79, ⟨.sc, 1, 8, [.nilf], none⟩),
  (80, ⟨.struct [(3, 0), (3, 1)], 2, 16, [.int .i64 0, .int .i64 0], some (.st (.pair (.int .i64) (.int .i64)))⟩),
  (81, ⟨.struct [(3, 0), (3, 1)], 2, 16, [.int .i64 0, .int .i64 0], some (.st (.pair (.int .i64) (.int .i64)))⟩),
  (83, ⟨.sc, 1, 8, [.nilf], none⟩),
  (84, ⟨.sc, 1, 8, [.nilf], none⟩),
  (85, ⟨.sc, 1, 8, [.nilf], none⟩),
  (86, ⟨.sc, 1, 8, [.nilf], none⟩),
  (87, ⟨.sc, 1, 8, [.nilf], none⟩),
  (88, ⟨.sc, 1, 8, [.nilf], none⟩),
  (89, ⟨.sc, 1, 8, [.nilf], none⟩),
  (90, ⟨.sc, 1, 8, [.nilf], none⟩),
  (91, ⟨.map 3 9, 1, 8, [.nilm], none⟩),
  (92, ⟨.struct [(46, 0), (91, 1), (22, 2), (3, 3), (23, 4), (3, 5), (4, 6)], 7, 104, [.nils, .nilm, .nils, .int .i64 0, .nils, .int .i64 0, .bool false], none⟩),
  (93, ⟨.struct [(46, 0), (91, 1), (22, 2), (3, 3), (23, 4), (3, 5), (4, 6)], 7, 104, [.nils, .nilm, .nils, .int .i64 0, .nils, .int .i64 0, .bool false], none⟩),
  (95, ⟨.sc, 1, 8, [.nilf], none⟩),
  (96, ⟨.sc, 1, 8, [.nilf], none⟩),
  (97, ⟨.sc, 1, 8, [.nilf], none⟩),
  (98, ⟨.sc, 1, 8, [.nilf], none⟩),
  (99, ⟨.sc, 1, 8, [.nilf], none⟩),
  (100, ⟨.struct [(25, 0), (3, 1), (3, 2)], 3, 24, [.nilp, .int .i64 0, .int .i64 0], none⟩),
  (101, ⟨.struct [(25, 0), (3, 1), (3, 2)], 3, 24, [.nilp, .int .i64 0, .int .i64 0], none⟩),
  (102, ⟨.ptr 104, 1, 8, [.nilp], none⟩),
  (103, ⟨.struct [(102, 0), (28, 1)], 2, 32, [.nilp, .nils], none⟩),
  (104, ⟨.struct [(102, 0), (28, 1)], 2, 32, [.nilp, .nils], none⟩),
  (105, ⟨.sc, 1, 16, [.nili], none⟩),
  (106, ⟨.sc, 1, 16, [.nili], none⟩),
  (108, ⟨.sc, 1, 8, [.nilf], none⟩),
  (109, ⟨.sc, 1, 8, [.nilf], none⟩),
  (110, ⟨.map 3 9, 1, 8, [.nilm], none⟩),
  (111, ⟨.struct [(110, 0), (110, 1)], 2, 16, [.nilm, .nilm], none⟩),
  (112, ⟨.struct [(110, 0), (110, 1)], 2, 16, [.nilm, .nilm], none⟩),
  (113, ⟨.sc, 1, 8, [.nilf], none⟩),
  (114, ⟨.sc, 1, 8, [.nilf], none⟩),
  (115, ⟨.map 3 3, 1, 8, [.nilm], none⟩),
  (116, ⟨.map 3 3, 1, 8, [.nilm], none⟩),
  (117, ⟨.struct [(116, 0), (116, 1)], 2, 16, [.nilm, .nilm], none⟩),
  (118, ⟨.struct [(116, 0), (116, 1)], 2, 16, [.nilm, .nilm], none⟩),
  (119, ⟨.sc, 1, 8, [.nilf], none⟩),
  (120, ⟨.sc, 1, 8, [.nilf], none⟩),
  (121, ⟨.sc, 1, 8, [.int .u64 0], some (.int .u64)⟩),
  (123, ⟨.sc, 1, 8, [.nilf], none⟩),
  (124, ⟨.sc, 1, 8, [.nilf], none⟩),
  (125, ⟨.sc, 1, 8, [.nilf], none⟩),
  (126, ⟨.ptr 5, 1, 8, [.nilp], none⟩),
  (127, ⟨.sc, 1, 8, [.nilf], none⟩),
  (128, ⟨.sc, 1, 4, [.int .u32 0], some (.int .u32)⟩),
  (130, ⟨.sc, 1, 8, [.nilf], none⟩),
  (131, ⟨.sc, 1, 8, [.int .u64 0], some (.int .u64)⟩),
  (133, ⟨.sc, 1, 8, [.nilf], none⟩),
  (135, ⟨.sc, 1, 8, [.nilf], none⟩),
  (136, ⟨.sc, 1, 8, [.nilf], none⟩),
  (137, ⟨.sc, 1, 8, [.nilf], none⟩),
  (138, ⟨.sc, 1, 8, [.nilf], none⟩),
  (139, ⟨.sc, 1, 8, [.nilf], none⟩),
  (140, ⟨.sc, 1, 8, [.int .i64 0], some (.int .i64)⟩),
  (142, ⟨.sc, 1, 8, [.nilf], none⟩),
  (143, ⟨.sc, 1, 8, [.nilf], none⟩),
  (144, ⟨.sc, 1, 8, [.nilf], none⟩),
  (145, ⟨.sc, 1, 8, [.nilf], none⟩),
  (146, ⟨.sc, 1, 8, [.nilf], none⟩),
  (147, ⟨.sc, 1, 8, [.nilf], none⟩),
  (148, ⟨.sc, 1, 8, [.int .u64 0], some (.int .u64)⟩),
  (149, ⟨.sc, 1, 8, [.nilf], none⟩),
  (150, ⟨.sc, 1, 8, [.nilf], none⟩),
  (151, ⟨.sc, 1, 8, [.nilf], none⟩),
  (152, ⟨.ptr 3, 1, 8, [.nilp], none⟩),
  (153, ⟨.sc, 1, 8, [.nilf], none⟩),
  (154, ⟨.ptr 148, 1, 8, [.nilp], none⟩),
  (156, ⟨.sc, 1, 8, [.nilf], none⟩),
  (164, ⟨.sc, 1, 8, [.nilf], none⟩)]
end Go.Proofs
namespace Go.Proofs.R3
open Go Go.AE
theorem tabOk : TabOk Try.prog Try.tab := tabOk_of_check (by kernel_rfl)
theorem mixed : Try.prog.follows .mixedOrders = true := Checked.mixed Try.checked
end Go.Proofs.R3
namespace Go.Proofs
open Go.Shelf
def Try.lays212_ren : Go.Shelf.Ren := ⟨fun | 212 => 77 | 263 => 90 | 264 => 91 | n => n, fun | 46 => 121 | 51 => 128 | 146 => 129 | 53 => 131 | 148 => 132 | n => n, fun | n => n⟩
theorem Try.lays212 : Go.Proofs.Lays.n212 Try.prog Try.lays212_ren := {
  mixed := by kernel_rfl
  f212 := Try.func77.trans (congrArg some (by kernel_rfl))
  f263 := Try.func90.trans (congrArg some (by kernel_rfl))
  f264 := Try.func91.trans (congrArg some (by kernel_rfl))
  t46 := Try.underlying121
  a46 := Try.isAgg121
  z46 := Try.sizeOf121
  v46 := Try.zeroValue121
  t51 := Try.underlying128
  a51 := Try.isAgg128
  z51 := Try.sizeOf128
  v51 := Try.zeroValue128
  t53 := Try.underlying131
  a53 := Try.isAgg131
  z53 := Try.sizeOf131
  v53 := Try.zeroValue131
  t146 := Try.underlying129
  a146 := Try.isAgg129
  z146 := Try.sizeOf129
  v146 := Try.zeroValue129
  t148 := Try.underlying132
  a148 := Try.isAgg132
  z148 := Try.sizeOf132
  v148 := Try.zeroValue132 }
open Go.RowKit Go.Lib in

theorem Try.bits_Mul (x y : Nat) (hx : x < 18446744073709551616) (hy : y < 18446744073709551616) (w : World) :
    Calls Try.prog 77 #[.int .u64 x, .int .u64 y] w fun e w' => e = .returned (.tuple #[.int .u64 ((x * y / 18446744073709551616 : Nat) : Int), .int .u64 ((x * y % 18446744073709551616 : Nat) : Int)]) ∧ w' = w := Any.bits_Mul Try.lays212 x y hx hy w
def Try.lays105_ren : Go.Shelf.Ren := ⟨fun | 105 => 58 | 212 => 77 | 99 => 78 | 165 => 79 | 166 => 68 | 170 => 80 | 169 => 69 | 263 => 90 | 264 => 91 | 206 => 92 | 240 => 86 | 241 => 93 | 276 => 94 | 277 => 97 | n => n, fun | 9 => 9 | 3 => 3 | 4 => 4 | 20 => 20 | 0 => 0 | 46 => 121 | 109 => 122 | 5 => 5 | 72 => 104 | 76 => 107 | 51 => 128 | 146 => 129 | 53 => 131 | 148 => 132 | 70 => 102 | 37 => 28 | 75 => 106 | 127 => 126 | 164 => 134 | 80 => 109 | n => n, fun | n => n⟩
theorem Try.lays105 : Go.Proofs.Lays.n105 Try.prog Try.lays105_ren := {
  mixed := by kernel_rfl
  f99 := Try.func78.trans (congrArg some (by kernel_rfl))
  f105 := Try.func58.trans (congrArg some (by kernel_rfl))
  f165 := Try.func79.trans (congrArg some (by kernel_rfl))
  f166 := Try.func68.trans (congrArg some (by kernel_rfl))
  f169 := Try.func69.trans (congrArg some (by kernel_rfl))
  f170 := Try.func80.trans (congrArg some (by kernel_rfl))
  f206 := Try.func92.trans (congrArg some (by kernel_rfl))
  f212 := Try.func77.trans (congrArg some (by kernel_rfl))
  f240 := Try.func86.trans (congrArg some (by kernel_rfl))
  f241 := Try.func93.trans (congrArg some (by kernel_rfl))
  f263 := Try.func90.trans (congrArg some (by kernel_rfl))
  f264 := Try.func91.trans (congrArg some (by kernel_rfl))
  f276 := Try.func94.trans (congrArg some (by kernel_rfl))
  f277 := Try.func97.trans (congrArg some (by kernel_rfl))
  t0 := Try.underlying0
  a0 := Try.isAgg0
  z0 := Try.sizeOf0
  v0 := Try.zeroValue0
  t3 := Try.underlying3
  a3 := Try.isAgg3
  z3 := Try.sizeOf3
  v3 := Try.zeroValue3
  t4 := Try.underlying4
  a4 := Try.isAgg4
  z4 := Try.sizeOf4
  v4 := Try.zeroValue4
  t5 := Try.underlying5
  a5 := Try.isAgg5
  z5 := Try.sizeOf5
  v5 := Try.zeroValue5
  t9 := Try.underlying9
  a9 := Try.isAgg9
  z9 := Try.sizeOf9
  v9 := Try.zeroValue9
  t20 := Try.underlying20
  a20 := Try.isAgg20
  z20 := Try.sizeOf20
  v20 := Try.zeroValue20
  t37 := Try.underlying28
  a37 := Try.isAgg28
  z37 := Try.sizeOf28
  v37 := Try.zeroValue28
  t46 := Try.underlying121
  a46 := Try.isAgg121
  z46 := Try.sizeOf121
  v46 := Try.zeroValue121
  t51 := Try.underlying128
  a51 := Try.isAgg128
  z51 := Try.sizeOf128
  v51 := Try.zeroValue128
  t53 := Try.underlying131
  a53 := Try.isAgg131
  z53 := Try.sizeOf131
  v53 := Try.zeroValue131
  t70 := Try.underlying102
  a70 := Try.isAgg102
  z70 := Try.sizeOf102
  v70 := Try.zeroValue102
  t72 := Try.underlying104
  a72 := Try.isAgg104
  z72 := Try.sizeOf104
  v72 := Try.zeroValue104
  t75 := Try.underlying106
  a75 := Try.isAgg106
  z75 := Try.sizeOf106
  v75 := Try.zeroValue106
  t76 := Try.underlying107
  a76 := Try.isAgg107
  z76 := Try.sizeOf107
  v76 := Try.zeroValue107
  t109 := Try.underlying122
  a109 := Try.isAgg122
  z109 := Try.sizeOf122
  v109 := Try.zeroValue122
  t127 := Try.underlying126
  a127 := Try.isAgg126
  z127 := Try.sizeOf126
  v127 := Try.zeroValue126
  t146 := Try.underlying129
  a146 := Try.isAgg129
  z146 := Try.sizeOf129
  v146 := Try.zeroValue129
  t148 := Try.underlying132
  a148 := Try.isAgg132
  z148 := Try.sizeOf132
  v148 := Try.zeroValue132
  t164 := Try.underlying134
  a164 := Try.isAgg134
  z164 := Try.sizeOf134
  v164 := Try.zeroValue134 }
theorem Try.Builder_Extra_105 : Builder.Extra Try.prog Try.lays105_ren := {
  sizeBuilder := by kernel_rfl
  liesBuilder := by kernel_rfl
  t5 := Try.underlying5
  a5 := Try.isAgg5
  z5 := Try.sizeOf5
  v5 := Try.zeroValue5
  infoByte := by kernel_rfl
  cellsByte := by kernel_rfl
  sizeByte := by kernel_rfl
  neB5 := by decide }
open Go.RowKit Go.Lib in

theorem Try.strings_Repeat (s : ByteArray) (c : Nat) (w : World) (hc : c ≤ 9223372036854775807) (hlen : s.size * c ≤ 140737488355328) :
    Calls Try.prog 58 #[.string s, .int .i64 c] w fun e w' => e = .returned (.string ⟨(Lib.repeatL s.data.toList c).toArray⟩) ∧ Below w.heap.size w w' := Any.strings_Repeat Try.lays105 Try.Builder_Extra_105 s c w hc hlen
end Go.Proofs
namespace Go.Proofs.R3
open Go Go.AE
theorem Fstrings_Repeat_ok : PureOk Try.prog 58 Fstrings_Repeat :=
  Fstrings_Repeat_of (entered_of Try.func58 (by kernel_rfl) (by decide +kernel)) fun s c w h1 h2 => Try.strings_Repeat s c w h1 h2
end Go.Proofs.R3
namespace Go.Proofs.R3
open Go Go.AE
--@ math_bits_Mul64
noncomputable def envmath_bits_Mul64 : Env := []
theorem envmath_bits_Mul64Ok : EnvOk Try.prog envmath_bits_Mul64 := EnvOk.nil
noncomputable def bmath_bits_Mul64 : Code := Try.f91.body.getD .skip
noncomputable def annmath_bits_Mul64 : Ann := .none
theorem annmath_bits_Mul64_ok : AnnOk Try.prog 51 bmath_bits_Mul64 annmath_bits_Mul64 := (annOk_none _ _ _)
abbrev Amath_bits_Mul64 := (Int) × (Int)
abbrev Ymath_bits_Mul64 := (Int) × (Int)
def fnmath_bits_Mul64 {β : Type} : Amath_bits_Mul64 → (Ymath_bits_Mul64 → Option β) → Option β := fun (a0, a1) exit => (exit (IntKind.wrap IntKind.u64 (IntKind.wrap IntKind.u64 (IntKind.wrap IntKind.u64 (Int.fdiv a0 (4294967296 : Int) * Int.fdiv a1 (4294967296 : Int)) + Int.fdiv (IntKind.wrap IntKind.u64 (IntKind.wrap IntKind.u64 (Int.fdiv a0 (4294967296 : Int) * IntKind.wrap IntKind.u64 (↑(Int.toNat (a1 % (18446744073709551616 : Int)) &&& (4294967295 : Nat)) : Int)) + Int.fdiv (IntKind.wrap IntKind.u64 (IntKind.wrap IntKind.u64 (↑(Int.toNat (a0 % (18446744073709551616 : Int)) &&& (4294967295 : Nat)) : Int) * IntKind.wrap IntKind.u64 (↑(Int.toNat (a1 % (18446744073709551616 : Int)) &&& (4294967295 : Nat)) : Int))) (4294967296 : Int))) (4294967296 : Int)) + Int.fdiv (IntKind.wrap IntKind.u64 (IntKind.wrap IntKind.u64 (↑(Int.toNat (IntKind.wrap IntKind.u64 (IntKind.wrap IntKind.u64 (Int.fdiv a0 (4294967296 : Int) * IntKind.wrap IntKind.u64 (↑(Int.toNat (a1 % (18446744073709551616 : Int)) &&& (4294967295 : Nat)) : Int)) + Int.fdiv (IntKind.wrap IntKind.u64 (IntKind.wrap IntKind.u64 (↑(Int.toNat (a0 % (18446744073709551616 : Int)) &&& (4294967295 : Nat)) : Int) * IntKind.wrap IntKind.u64 (↑(Int.toNat (a1 % (18446744073709551616 : Int)) &&& (4294967295 : Nat)) : Int))) (4294967296 : Int)) % (18446744073709551616 : Int)) &&& (4294967295 : Nat)) : Int) + IntKind.wrap IntKind.u64 (IntKind.wrap IntKind.u64 (↑(Int.toNat (a0 % (18446744073709551616 : Int)) &&& (4294967295 : Nat)) : Int) * Int.fdiv a1 (4294967296 : Int)))) (4294967296 : Int)), IntKind.wrap IntKind.u64 (a0 * a1)))
def fnDmath_bits_Mul64 (a : Amath_bits_Mul64) : Option Ymath_bits_Mul64 := fnmath_bits_Mul64 a some
theorem fnmath_bits_Mul64_nat (a : Amath_bits_Mul64) (k : Ymath_bits_Mul64 → Ans) : fnmath_bits_Mul64 a k = bindO (fnDmath_bits_Mul64 a) k := by
  obtain ⟨a0, a1⟩ := a
  simp only [fnDmath_bits_Mul64, fnmath_bits_Mul64, bindO_cond, bindO_assoc, bindO_none, bindO_pure, bindO_elim, bindO_unP]
def argsmath_bits_Mul64 : Amath_bits_Mul64 → List AV := fun (a0, a1) => [AV.int IntKind.u64 a0, AV.int IntKind.u64 a1]
def decAmath_bits_Mul64 (l : List AV) : Option Amath_bits_Mul64 := match l with
  | [AV.int IntKind.u64 a0, AV.int IntKind.u64 a1] => some (a0, a1)
  | _ => none
theorem decAmath_bits_Mul64_ok (l : List AV) (a : Amath_bits_Mul64) (h : decAmath_bits_Mul64 l = some a) : l = argsmath_bits_Mul64 a := by
  unfold decAmath_bits_Mul64 at h
  split at h
  · cases h; rfl
  · cases h
def rendmath_bits_Mul64 : Amath_bits_Mul64 → Ymath_bits_Mul64 → AV := fun (a0, a1) => unP fun r_0_y r_1_y => AV.tup [AV.int IntKind.u64 r_0_y, AV.int IntKind.u64 r_1_y]
theorem rendmath_bits_Mul64_ok : ∀ (a : Amath_bits_Mul64) (y : Ymath_bits_Mul64), (rendmath_bits_Mul64 a y).closed1 = true := by
  rintro ⟨a0, a1⟩ y <;> first | rfl | exact Empty.elim y
theorem fnmath_bits_Mul64_ok (a : Amath_bits_Mul64) : fnE Try.tab envmath_bits_Mul64 noHint 0 70 91 Try.f91.ntmps Try.f91.results.toList annmath_bits_Mul64 bmath_bits_Mul64 (argsmath_bits_Mul64 a) [] (fun v _ => some (v, [])) = fnmath_bits_Mul64 a (fun y => some (rendmath_bits_Mul64 a y, [])) := by kernel_rfl
def vFmath_bits_Mul64 (a : Amath_bits_Mul64) (K : AV → Ans) : Ans := bindO (fnDmath_bits_Mul64 a) fun y => K (rendmath_bits_Mul64 a y)
def Fmath_bits_Mul64 : List AV → (AV → Ans) → Ans := fun l K => bindO (decAmath_bits_Mul64 l) fun a => vFmath_bits_Mul64 a K
theorem Fmath_bits_Mul64_ok : PureOk Try.prog 91 Fmath_bits_Mul64 := pure_mkD (hint := noHint) (d := 0) (n := 70) mixed tabOk envmath_bits_Mul64Ok Try.func91 (bodySome (by kernel_rfl)) (by decide +kernel) annmath_bits_Mul64_ok decAmath_bits_Mul64_ok fnmath_bits_Mul64_ok fnmath_bits_Mul64_nat rendmath_bits_Mul64_ok
--@ math_bits_Mul
noncomputable def envmath_bits_Mul : Env := [(91, .pure Fmath_bits_Mul64)]
theorem envmath_bits_MulOk : EnvOk Try.prog envmath_bits_Mul := EnvOk.cons Fmath_bits_Mul64_ok (EnvOk.nil)
noncomputable def bmath_bits_Mul : Code := Try.f77.body.getD .skip
noncomputable def annmath_bits_Mul : Ann := .none
theorem annmath_bits_Mul_ok : AnnOk Try.prog 30 bmath_bits_Mul annmath_bits_Mul := (annOk_none _ _ _)
abbrev Amath_bits_Mul := (Int) × (Int)
abbrev Ymath_bits_Mul := (Int) × (Int)
def fnmath_bits_Mul {β : Type} : Amath_bits_Mul → (Ymath_bits_Mul → Option β) → Option β := fun (a0, a1) exit => (bindO (fnDmath_bits_Mul64 (a0, a1)) (unP fun r_0 r_1 => (exit (r_0, r_1))))
def fnDmath_bits_Mul (a : Amath_bits_Mul) : Option Ymath_bits_Mul := fnmath_bits_Mul a some
theorem fnmath_bits_Mul_nat (a : Amath_bits_Mul) (k : Ymath_bits_Mul → Ans) : fnmath_bits_Mul a k = bindO (fnDmath_bits_Mul a) k := by
  obtain ⟨a0, a1⟩ := a
  simp only [fnDmath_bits_Mul, fnmath_bits_Mul, bindO_cond, bindO_assoc, bindO_none, bindO_pure, bindO_elim, bindO_unP]
def argsmath_bits_Mul : Amath_bits_Mul → List AV := fun (a0, a1) => [AV.int IntKind.u64 a0, AV.int IntKind.u64 a1]
def decAmath_bits_Mul (l : List AV) : Option Amath_bits_Mul := match l with
  | [AV.int IntKind.u64 a0, AV.int IntKind.u64 a1] => some (a0, a1)
  | _ => none
theorem decAmath_bits_Mul_ok (l : List AV) (a : Amath_bits_Mul) (h : decAmath_bits_Mul l = some a) : l = argsmath_bits_Mul a := by
  unfold decAmath_bits_Mul at h
  split at h
  · cases h; rfl
  · cases h
def rendmath_bits_Mul : Amath_bits_Mul → Ymath_bits_Mul → AV := fun (a0, a1) => unP fun r_0_y r_1_y => AV.tup [AV.int IntKind.u64 r_0_y, AV.int IntKind.u64 r_1_y]
theorem rendmath_bits_Mul_ok : ∀ (a : Amath_bits_Mul) (y : Ymath_bits_Mul), (rendmath_bits_Mul a y).closed1 = true := by
  rintro ⟨a0, a1⟩ y <;> first | rfl | exact Empty.elim y
theorem fnmath_bits_Mul_ok (a : Amath_bits_Mul) : fnE Try.tab envmath_bits_Mul noHint 0 70 77 Try.f77.ntmps Try.f77.results.toList annmath_bits_Mul bmath_bits_Mul (argsmath_bits_Mul a) [] (fun v _ => some (v, [])) = fnmath_bits_Mul a (fun y => some (rendmath_bits_Mul a y, [])) := by kernel_rfl
def vFmath_bits_Mul (a : Amath_bits_Mul) (K : AV → Ans) : Ans := bindO (fnDmath_bits_Mul a) fun y => K (rendmath_bits_Mul a y)
def Fmath_bits_Mul : List AV → (AV → Ans) → Ans := fun l K => bindO (decAmath_bits_Mul l) fun a => vFmath_bits_Mul a K
theorem Fmath_bits_Mul_ok : PureOk Try.prog 77 Fmath_bits_Mul := pure_mkD (hint := noHint) (d := 0) (n := 70) mixed tabOk envmath_bits_MulOk Try.func77 (bodySome (by kernel_rfl)) (by decide +kernel) annmath_bits_Mul_ok decAmath_bits_Mul_ok fnmath_bits_Mul_ok fnmath_bits_Mul_nat rendmath_bits_Mul_ok
--@ slices_Repeat_string_string
noncomputable def envslices_Repeat_string_string : Env := [(77, .pure Fmath_bits_Mul)]
theorem envslices_Repeat_string_stringOk : EnvOk Try.prog envslices_Repeat_string_string := EnvOk.cons Fmath_bits_Mul_ok (EnvOk.nil)
noncomputable def bslices_Repeat_string_string : Code := Try.f57.body.getD .skip
noncomputable def Lslices_Repeat_string_string_n3 : Code := codeAt [1, 1, 1, 1, 1, 1, 0, 0, 0] bslices_Repeat_string_string
noncomputable def annLslices_Repeat_string_string_n3 : Ann := .at 0 [7, 8] (.loop .none)
theorem annLslices_Repeat_string_string_n3_ok : AnnOk Try.prog 48 (.loop Lslices_Repeat_string_string_n3) annLslices_Repeat_string_string_n3 := annOk_at (annOk_none _ _ _)
abbrev Islices_Repeat_string_string_n3 := Unit
abbrev Yslices_Repeat_string_string_n3 := (List (List UInt8))
abbrev Vslices_Repeat_string_string_n3 := (Int) × (List (List UInt8))
def Sslices_Repeat_string_string_n3 : Islices_Repeat_string_string_n3 → Vslices_Repeat_string_string_n3 → St := fun _ (t8, o0) => { env := [(7, AV.own 0), (8, AV.int IntKind.i64 t8)], stk := [[]], H := [Obj.arr Ty.str o0], blk := 233472 }
def decslices_Repeat_string_string_n3 (s : St) : Option (Islices_Repeat_string_string_n3 × Vslices_Repeat_string_string_n3) := match s with
  | { env := [(7, AV.own 0), (8, AV.int IntKind.i64 t8)], stk := [[]], H := [Obj.arr Ty.str o0], blk := 233472 } => some ((), (t8, o0))
  | _ => none
theorem decslices_Repeat_string_string_n3_ok (s : St) (x : Islices_Repeat_string_string_n3 × Vslices_Repeat_string_string_n3) (h : decslices_Repeat_string_string_n3 s = some x) : s = Sslices_Repeat_string_string_n3 x.1 x.2 := by
  unfold decslices_Repeat_string_string_n3 at h
  split at h
  · cases h; rfl
  · cases h
def outslices_Repeat_string_string_n3 : Islices_Repeat_string_string_n3 → (Ex → St → Ans) → Yslices_Repeat_string_string_n3 → Ans := fun _ K => fun o0_y => K (Ex.exit 0) { env := [(7, AV.own 0)], stk := [[]], H := [Obj.arr Ty.str o0_y], blk := 233472 }
def stepslices_Repeat_string_string_n3 {β : Type} : Islices_Repeat_string_string_n3 → Vslices_Repeat_string_string_n3 → (Vslices_Repeat_string_string_n3 → Option β) → (Yslices_Repeat_string_string_n3 → Option β) → Option β := fun _ (t8, o0) next exit => (bif decide (t8 < (↑(List.length o0) : Int)) then (bif inR t8 (List.length o0 + (1 : Nat)) then (bif inR t8 (List.length o0 + (1 : Nat)) then (bif Nat.ble ((0 : Nat) + (Int.toNat t8 - (0 : Nat))) (List.length o0) then (bif Nat.ble (Int.toNat t8 + (List.length o0 - Int.toNat t8)) (List.length o0) then (next (IntKind.wrap IntKind.i64 (t8 + (↑(Nat.min (List.length (List.take (Int.toNat t8 - (0 : Nat)) (List.drop (0 : Nat) o0))) (List.length o0 - Int.toNat t8)) : Int)), List.take (Int.toNat t8) o0 ++ (List.take (List.length o0 - Int.toNat t8) (List.take (Int.toNat t8 - (0 : Nat)) (List.drop (0 : Nat) o0)) ++ List.drop (Int.toNat t8 + Nat.min (List.length (List.take (Int.toNat t8 - (0 : Nat)) (List.drop (0 : Nat) o0))) (List.length o0 - Int.toNat t8)) o0))) else none) else none) else none) else none) else (exit (o0)))
def stepDslices_Repeat_string_string_n3 (i : Islices_Repeat_string_string_n3) (v : Vslices_Repeat_string_string_n3) : Option (Vslices_Repeat_string_string_n3 ⊕ Yslices_Repeat_string_string_n3) := stepslices_Repeat_string_string_n3 i v (fun v => some (.inl v)) (fun y => some (.inr y))
theorem stepslices_Repeat_string_string_n3_nat (i : Islices_Repeat_string_string_n3) (v : Vslices_Repeat_string_string_n3) (next : Vslices_Repeat_string_string_n3 → Ans) (exit : Yslices_Repeat_string_string_n3 → Ans) : stepslices_Repeat_string_string_n3 i v next exit = bindO (stepDslices_Repeat_string_string_n3 i v) (Sum.elim next exit) := by
  obtain z := i
  obtain ⟨t8, o0⟩ := v
  simp only [stepDslices_Repeat_string_string_n3, stepslices_Repeat_string_string_n3, bindO_cond, bindO_assoc, bindO_none, bindO_pure, bindO_elim, bindO_unP, Sum.elim_inl, Sum.elim_inr]
theorem stepslices_Repeat_string_string_n3_ok (n : Nat) (i : Islices_Repeat_string_string_n3) (v : Vslices_Repeat_string_string_n3) (K : Ex → St → Ans) : codeI Try.tab envslices_Repeat_string_string noHint (codeD Try.tab envslices_Repeat_string_string noHint 0 64) (n+1) 48 annLslices_Repeat_string_string_n3 (.loop Lslices_Repeat_string_string_n3) (weakP 0 (exk [7] [4] [(0, [7])]) K) (Sslices_Repeat_string_string_n3 i v) = stepslices_Repeat_string_string_n3 i v (fun v' => codeI Try.tab envslices_Repeat_string_string noHint (codeD Try.tab envslices_Repeat_string_string noHint 0 64) n 48 annLslices_Repeat_string_string_n3 (.loop Lslices_Repeat_string_string_n3) (weakP 0 (exk [7] [4] [(0, [7])]) K) (Sslices_Repeat_string_string_n3 i v')) (fun y => outslices_Repeat_string_string_n3 i K y) := by kernel_rfl
theorem GNslices_Repeat_string_string_n3_ok : CSum Try.prog 48 (.loop Lslices_Repeat_string_string_n3) (sumL decslices_Repeat_string_string_n3 stepDslices_Repeat_string_string_n3 outslices_Repeat_string_string_n3) := csum_loop mixed tabOk envslices_Repeat_string_stringOk 0 (exk [7] [4] [(0, [7])]) annLslices_Repeat_string_string_n3_ok decslices_Repeat_string_string_n3_ok stepslices_Repeat_string_string_n3_ok stepslices_Repeat_string_string_n3_nat
noncomputable def Gslices_Repeat_string_string_n3 : (Ex → St → Ans) → St → Ans := (sumL decslices_Repeat_string_string_n3 stepDslices_Repeat_string_string_n3 outslices_Repeat_string_string_n3)
theorem Gslices_Repeat_string_string_n3_ok : CSum Try.prog 48 (.loop Lslices_Repeat_string_string_n3) Gslices_Repeat_string_string_n3 := GNslices_Repeat_string_string_n3_ok
noncomputable def Lslices_Repeat_string_string_n2 : Code := codeAt [1, 1, 1, 0, 1] bslices_Repeat_string_string
noncomputable def annLslices_Repeat_string_string_n2 : Ann := .none
theorem annLslices_Repeat_string_string_n2_ok : AnnOk Try.prog 48 Lslices_Repeat_string_string_n2 annLslices_Repeat_string_string_n2 := (annOk_none _ _ _)
abbrev Islices_Repeat_string_string_n2 := (List (List UInt8)) × (Int) × (Bool)
abbrev Yslices_Repeat_string_string_n2 := Unit
def Sslices_Repeat_string_string_n2 : Islices_Repeat_string_string_n2 → St := fun (t0, t6, t26) => { env := [(0, AV.ro Ty.str t0), (6, AV.int IntKind.u64 t6), (26, AV.bool t26)], stk := [[]], H := [], blk := 233472 }
def decslices_Repeat_string_string_n2 (s : St) : Option Islices_Repeat_string_string_n2 := match s with
  | { env := [(0, AV.ro Ty.str t0), (6, AV.int IntKind.u64 t6), (26, AV.bool t26)], stk := [[]], H := [], blk := 233472 } => some (t0, t6, t26)
  | _ => none
theorem decslices_Repeat_string_string_n2_ok (s : St) (x : Islices_Repeat_string_string_n2) (h : decslices_Repeat_string_string_n2 s = some x) : s = Sslices_Repeat_string_string_n2 x := by
  unfold decslices_Repeat_string_string_n2 at h
  split at h
  · cases h; rfl
  · cases h
def outslices_Repeat_string_string_n2 : Islices_Repeat_string_string_n2 → (Ex → St → Ans) → Yslices_Repeat_string_string_n2 → Ans := fun (t0, t6, t26) K => fun _ => K (Ex.norm) { env := [(0, AV.ro Ty.str t0), (6, AV.int IntKind.u64 t6)], stk := [[]], H := [], blk := 233472 }
def nodeslices_Repeat_string_string_n2 {β : Type} : Islices_Repeat_string_string_n2 → (Yslices_Repeat_string_string_n2 → Option β) → Option β := fun (t0, t6, t26) exit => (bif t26 then none else (exit ()))
def nodeDslices_Repeat_string_string_n2 (i : Islices_Repeat_string_string_n2) : Option Yslices_Repeat_string_string_n2 := nodeslices_Repeat_string_string_n2 i some
theorem nodeslices_Repeat_string_string_n2_nat (i : Islices_Repeat_string_string_n2) (k : Yslices_Repeat_string_string_n2 → Ans) : nodeslices_Repeat_string_string_n2 i k = bindO (nodeDslices_Repeat_string_string_n2 i) k := by
  obtain ⟨t0, t6, t26⟩ := i
  simp only [nodeDslices_Repeat_string_string_n2, nodeslices_Repeat_string_string_n2, bindO_cond, bindO_assoc, bindO_none, bindO_pure, bindO_elim, bindO_unP]
theorem nodeslices_Repeat_string_string_n2_ok (i : Islices_Repeat_string_string_n2) (K : Ex → St → Ans) : codeI Try.tab envslices_Repeat_string_string noHint (codeD Try.tab envslices_Repeat_string_string noHint 0 64) 70 48 annLslices_Repeat_string_string_n2 Lslices_Repeat_string_string_n2 (weakP 0 (exk [0, 6] [4] []) K) (Sslices_Repeat_string_string_n2 i) = nodeslices_Repeat_string_string_n2 i (outslices_Repeat_string_string_n2 i K) := by kernel_rfl
theorem GNslices_Repeat_string_string_n2_ok : CSum Try.prog 48 Lslices_Repeat_string_string_n2 (sumN decslices_Repeat_string_string_n2 nodeDslices_Repeat_string_string_n2 outslices_Repeat_string_string_n2) := csum_node mixed tabOk envslices_Repeat_string_stringOk 0 (exk [0, 6] [4] []) annLslices_Repeat_string_string_n2_ok decslices_Repeat_string_string_n2_ok nodeslices_Repeat_string_string_n2_ok nodeslices_Repeat_string_string_n2_nat
noncomputable def Gslices_Repeat_string_string_n2 : (Ex → St → Ans) → St → Ans := (sumN decslices_Repeat_string_string_n2 nodeDslices_Repeat_string_string_n2 outslices_Repeat_string_string_n2)
theorem Gslices_Repeat_string_string_n2_ok : CSum Try.prog 48 Lslices_Repeat_string_string_n2 Gslices_Repeat_string_string_n2 := GNslices_Repeat_string_string_n2_ok
noncomputable def Lslices_Repeat_string_string_n1 : Code := codeAt [1, 1, 1, 0, 0] bslices_Repeat_string_string
noncomputable def annLslices_Repeat_string_string_n1 : Ann := .none
theorem annLslices_Repeat_string_string_n1_ok : AnnOk Try.prog 48 Lslices_Repeat_string_string_n1 annLslices_Repeat_string_string_n1 := (annOk_none _ _ _)
abbrev Islices_Repeat_string_string_n1 := (List (List UInt8)) × (Int) × (Int)
abbrev Yslices_Repeat_string_string_n1 := (Bool)
def Sslices_Repeat_string_string_n1 : Islices_Repeat_string_string_n1 → St := fun (t0, t5, t6) => { env := [(0, AV.ro Ty.str t0), (5, AV.int IntKind.u64 t5), (6, AV.int IntKind.u64 t6)], stk := [[]], H := [], blk := 233472 }
def decslices_Repeat_string_string_n1 (s : St) : Option Islices_Repeat_string_string_n1 := match s with
  | { env := [(0, AV.ro Ty.str t0), (5, AV.int IntKind.u64 t5), (6, AV.int IntKind.u64 t6)], stk := [[]], H := [], blk := 233472 } => some (t0, t5, t6)
  | _ => none
theorem decslices_Repeat_string_string_n1_ok (s : St) (x : Islices_Repeat_string_string_n1) (h : decslices_Repeat_string_string_n1 s = some x) : s = Sslices_Repeat_string_string_n1 x := by
  unfold decslices_Repeat_string_string_n1 at h
  split at h
  · cases h; rfl
  · cases h
def outslices_Repeat_string_string_n1 : Islices_Repeat_string_string_n1 → (Ex → St → Ans) → Yslices_Repeat_string_string_n1 → Ans := fun (t0, t5, t6) K => fun t26_y => K (Ex.norm) { env := [(0, AV.ro Ty.str t0), (6, AV.int IntKind.u64 t6), (26, AV.bool t26_y)], stk := [[]], H := [], blk := 233472 }
def nodeslices_Repeat_string_string_n1 {β : Type} : Islices_Repeat_string_string_n1 → (Yslices_Repeat_string_string_n1 → Option β) → Option β := fun (t0, t5, t6) exit => (bif decide (t5 > (0 : Int)) then (exit (true)) else (exit (decide (t6 > (9223372036854775807 : Int)))))
def nodeDslices_Repeat_string_string_n1 (i : Islices_Repeat_string_string_n1) : Option Yslices_Repeat_string_string_n1 := nodeslices_Repeat_string_string_n1 i some
theorem nodeslices_Repeat_string_string_n1_nat (i : Islices_Repeat_string_string_n1) (k : Yslices_Repeat_string_string_n1 → Ans) : nodeslices_Repeat_string_string_n1 i k = bindO (nodeDslices_Repeat_string_string_n1 i) k := by
  obtain ⟨t0, t5, t6⟩ := i
  simp only [nodeDslices_Repeat_string_string_n1, nodeslices_Repeat_string_string_n1, bindO_cond, bindO_assoc, bindO_none, bindO_pure, bindO_elim, bindO_unP]
theorem nodeslices_Repeat_string_string_n1_ok (i : Islices_Repeat_string_string_n1) (K : Ex → St → Ans) : codeI Try.tab envslices_Repeat_string_string noHint (codeD Try.tab envslices_Repeat_string_string noHint 0 64) 70 48 annLslices_Repeat_string_string_n1 Lslices_Repeat_string_string_n1 (weakP 0 (exk [0, 6, 26] [4] []) K) (Sslices_Repeat_string_string_n1 i) = nodeslices_Repeat_string_string_n1 i (outslices_Repeat_string_string_n1 i K) := by kernel_rfl
theorem GNslices_Repeat_string_string_n1_ok : CSum Try.prog 48 Lslices_Repeat_string_string_n1 (sumN decslices_Repeat_string_string_n1 nodeDslices_Repeat_string_string_n1 outslices_Repeat_string_string_n1) := csum_node mixed tabOk envslices_Repeat_string_stringOk 0 (exk [0, 6, 26] [4] []) annLslices_Repeat_string_string_n1_ok decslices_Repeat_string_string_n1_ok nodeslices_Repeat_string_string_n1_ok nodeslices_Repeat_string_string_n1_nat
noncomputable def Gslices_Repeat_string_string_n1 : (Ex → St → Ans) → St → Ans := (sumN decslices_Repeat_string_string_n1 nodeDslices_Repeat_string_string_n1 outslices_Repeat_string_string_n1)
theorem Gslices_Repeat_string_string_n1_ok : CSum Try.prog 48 Lslices_Repeat_string_string_n1 Gslices_Repeat_string_string_n1 := GNslices_Repeat_string_string_n1_ok
noncomputable def Lslices_Repeat_string_string_n0 : Code := codeAt [1, 0, 1] bslices_Repeat_string_string
noncomputable def annLslices_Repeat_string_string_n0 : Ann := .none
theorem annLslices_Repeat_string_string_n0_ok : AnnOk Try.prog 48 Lslices_Repeat_string_string_n0 annLslices_Repeat_string_string_n0 := (annOk_none _ _ _)
abbrev Islices_Repeat_string_string_n0 := (List (List UInt8)) × (Int) × (Bool)
abbrev Yslices_Repeat_string_string_n0 := Unit
def Sslices_Repeat_string_string_n0 : Islices_Repeat_string_string_n0 → St := fun (t0, t1, t10) => { env := [(0, AV.ro Ty.str t0), (1, AV.int IntKind.i64 t1), (10, AV.bool t10)], stk := [[]], H := [], blk := 233472 }
def decslices_Repeat_string_string_n0 (s : St) : Option Islices_Repeat_string_string_n0 := match s with
  | { env := [(0, AV.ro Ty.str t0), (1, AV.int IntKind.i64 t1), (10, AV.bool t10)], stk := [[]], H := [], blk := 233472 } => some (t0, t1, t10)
  | _ => none
theorem decslices_Repeat_string_string_n0_ok (s : St) (x : Islices_Repeat_string_string_n0) (h : decslices_Repeat_string_string_n0 s = some x) : s = Sslices_Repeat_string_string_n0 x := by
  unfold decslices_Repeat_string_string_n0 at h
  split at h
  · cases h; rfl
  · cases h
def outslices_Repeat_string_string_n0 : Islices_Repeat_string_string_n0 → (Ex → St → Ans) → Yslices_Repeat_string_string_n0 → Ans := fun (t0, t1, t10) K => fun _ => K (Ex.norm) { env := [(0, AV.ro Ty.str t0), (1, AV.int IntKind.i64 t1)], stk := [[]], H := [], blk := 233472 }
def nodeslices_Repeat_string_string_n0 {β : Type} : Islices_Repeat_string_string_n0 → (Yslices_Repeat_string_string_n0 → Option β) → Option β := fun (t0, t1, t10) exit => (bif t10 then none else (exit ()))
def nodeDslices_Repeat_string_string_n0 (i : Islices_Repeat_string_string_n0) : Option Yslices_Repeat_string_string_n0 := nodeslices_Repeat_string_string_n0 i some
theorem nodeslices_Repeat_string_string_n0_nat (i : Islices_Repeat_string_string_n0) (k : Yslices_Repeat_string_string_n0 → Ans) : nodeslices_Repeat_string_string_n0 i k = bindO (nodeDslices_Repeat_string_string_n0 i) k := by
  obtain ⟨t0, t1, t10⟩ := i
  simp only [nodeDslices_Repeat_string_string_n0, nodeslices_Repeat_string_string_n0, bindO_cond, bindO_assoc, bindO_none, bindO_pure, bindO_elim, bindO_unP]
theorem nodeslices_Repeat_string_string_n0_ok (i : Islices_Repeat_string_string_n0) (K : Ex → St → Ans) : codeI Try.tab envslices_Repeat_string_string noHint (codeD Try.tab envslices_Repeat_string_string noHint 0 64) 70 48 annLslices_Repeat_string_string_n0 Lslices_Repeat_string_string_n0 (weakP 0 (exk [0, 1] [4] []) K) (Sslices_Repeat_string_string_n0 i) = nodeslices_Repeat_string_string_n0 i (outslices_Repeat_string_string_n0 i K) := by kernel_rfl
theorem GNslices_Repeat_string_string_n0_ok : CSum Try.prog 48 Lslices_Repeat_string_string_n0 (sumN decslices_Repeat_string_string_n0 nodeDslices_Repeat_string_string_n0 outslices_Repeat_string_string_n0) := csum_node mixed tabOk envslices_Repeat_string_stringOk 0 (exk [0, 1] [4] []) annLslices_Repeat_string_string_n0_ok decslices_Repeat_string_string_n0_ok nodeslices_Repeat_string_string_n0_ok nodeslices_Repeat_string_string_n0_nat
noncomputable def Gslices_Repeat_string_string_n0 : (Ex → St → Ans) → St → Ans := (sumN decslices_Repeat_string_string_n0 nodeDslices_Repeat_string_string_n0 outslices_Repeat_string_string_n0)
theorem Gslices_Repeat_string_string_n0_ok : CSum Try.prog 48 Lslices_Repeat_string_string_n0 Gslices_Repeat_string_string_n0 := GNslices_Repeat_string_string_n0_ok
noncomputable def annslices_Repeat_string_string : Ann := (.seq .none (.seq (.seq .none (.cut 0 [0, 1, 10] Gslices_Repeat_string_string_n0)) (.seq .none (.seq (.seq (.cut 0 [0, 5, 6] Gslices_Repeat_string_string_n1) (.cut 0 [0, 6, 26] Gslices_Repeat_string_string_n2)) (.seq .none (.seq .none (.seq (.block (.cut 0 [7, 8] Gslices_Repeat_string_string_n3)) .none)))))))
theorem annslices_Repeat_string_string_ok : AnnOk Try.prog 48 bslices_Repeat_string_string annslices_Repeat_string_string := ⟨(annOk_none _ _ _), ⟨⟨(annOk_none _ _ _), Gslices_Repeat_string_string_n0_ok⟩, ⟨(annOk_none _ _ _), ⟨⟨Gslices_Repeat_string_string_n1_ok, Gslices_Repeat_string_string_n2_ok⟩, ⟨(annOk_none _ _ _), ⟨(annOk_none _ _ _), ⟨Gslices_Repeat_string_string_n3_ok, (annOk_none _ _ _)⟩⟩⟩⟩⟩⟩⟩
abbrev Aslices_Repeat_string_string := (List (List UInt8)) × (Int)
abbrev Yslices_Repeat_string_string := (List (List UInt8))
def fnslices_Repeat_string_string {β : Type} : Aslices_Repeat_string_string → (Yslices_Repeat_string_string → Option β) → Option β := fun (a0, a1) exit => (bindO (nodeDslices_Repeat_string_string_n0 (a0, a1, decide (a1 < (0 : Int)))) fun _ => (bindO (fnDmath_bits_Mul (IntKind.wrap IntKind.u64 (↑(List.length a0) : Int), IntKind.wrap IntKind.u64 a1)) (unP fun r_0 r_1 => (bindO (nodeDslices_Repeat_string_string_n1 (a0, r_0, r_1)) fun t26 => (bindO (nodeDslices_Repeat_string_string_n2 (a0, r_1, t26)) fun _ => (bif decide ((0 : Int) ≤ IntKind.wrap IntKind.i64 r_1) && decide (IntKind.wrap IntKind.i64 r_1 ≤ IntKind.wrap IntKind.i64 r_1) && decide ((16 : Int) * IntKind.wrap IntKind.i64 r_1 ≤ (281474976710656 : Int)) && decide (IntKind.wrap IntKind.i64 r_1 ≤ (9223372036854775807 : Int)) then (bindO (loopD (stepDslices_Repeat_string_string_n3 ()) FUEL ((↑(Nat.min (List.length a0) (List.length (List.replicate (Int.toNat (IntKind.wrap IntKind.i64 r_1)) (nilL UInt8)))) : Int), List.take (List.length (List.replicate (Int.toNat (IntKind.wrap IntKind.i64 r_1)) (nilL UInt8))) a0 ++ List.drop (List.length a0) (List.replicate (Int.toNat (IntKind.wrap IntKind.i64 r_1)) (nilL UInt8)))) fun o0 => (exit (o0))) else none))))))
def fnDslices_Repeat_string_string (a : Aslices_Repeat_string_string) : Option Yslices_Repeat_string_string := fnslices_Repeat_string_string a some
theorem fnslices_Repeat_string_string_nat (a : Aslices_Repeat_string_string) (k : Yslices_Repeat_string_string → Ans) : fnslices_Repeat_string_string a k = bindO (fnDslices_Repeat_string_string a) k := by
  obtain ⟨a0, a1⟩ := a
  simp only [fnDslices_Repeat_string_string, fnslices_Repeat_string_string, bindO_cond, bindO_assoc, bindO_none, bindO_pure, bindO_elim, bindO_unP]
def argsslices_Repeat_string_string : Aslices_Repeat_string_string → List AV × List AE.Obj := fun (a0, a1) => ([AV.ro Ty.str a0, AV.int IntKind.i64 a1], [])
def decAslices_Repeat_string_string (l : List AV) (H : List AE.Obj) : Option Aslices_Repeat_string_string := match l, H with
  | [AV.ro Ty.str a0, AV.int IntKind.i64 a1], [] => some (a0, a1)
  | _, _ => none
theorem decAslices_Repeat_string_string_ok (l : List AV) (H : List AE.Obj) (a : Aslices_Repeat_string_string) (h : decAslices_Repeat_string_string l H = some a) : (l, H) = argsslices_Repeat_string_string a := by
  unfold decAslices_Repeat_string_string at h
  split at h
  · cases h; rfl
  · cases h
def outslices_Repeat_string_string : Aslices_Repeat_string_string → (AV → List AE.Obj → Ans) → Yslices_Repeat_string_string → Ans := fun (a0, a1) K => fun o0_y => K (AV.own 0) [Obj.arr Ty.str o0_y]
theorem fnslices_Repeat_string_string_ok (a : Aslices_Repeat_string_string) (K : AV → List AE.Obj → Ans) : fnE Try.tab envslices_Repeat_string_string noHint 0 70 57 Try.f57.ntmps Try.f57.results.toList annslices_Repeat_string_string bslices_Repeat_string_string (argsslices_Repeat_string_string a).1 (argsslices_Repeat_string_string a).2 K = fnslices_Repeat_string_string a (outslices_Repeat_string_string a K) := by kernel_rfl
def vFslices_Repeat_string_string (a : Aslices_Repeat_string_string) (K : AV → List AE.Obj → Ans) : Ans := bindO (fnDslices_Repeat_string_string a) fun y => outslices_Repeat_string_string a K y
def Fslices_Repeat_string_string : List AV → List AE.Obj → (AV → List AE.Obj → Ans) → Ans := fun l H K => bindO (decAslices_Repeat_string_string l H) fun a => vFslices_Repeat_string_string a K
theorem Fslices_Repeat_string_string_ok : FuncOk Try.prog 57 Fslices_Repeat_string_string := func_mkD (hint := noHint) (d := 0) (n := 70) mixed tabOk envslices_Repeat_string_stringOk Try.func57 (bodySome (by kernel_rfl)) (by decide +kernel) annslices_Repeat_string_string_ok decAslices_Repeat_string_string_ok fnslices_Repeat_string_string_ok fnslices_Repeat_string_string_nat
--@ disk_New
noncomputable def envdisk_New : Env := [(58, .pure Fstrings_Repeat), (57, .func Fslices_Repeat_string_string)]
theorem envdisk_NewOk : EnvOk Try.prog envdisk_New := EnvOk.cons Fstrings_Repeat_ok (EnvOk.cons Fslices_Repeat_string_string_ok (EnvOk.nil))
noncomputable def bdisk_New : Code := Try.f12.body.getD .skip
noncomputable def anndisk_New : Ann := .none
theorem anndisk_New_ok : AnnOk Try.prog 14 bdisk_New anndisk_New := (annOk_none _ _ _)
abbrev Adisk_New := (Int)
abbrev Ydisk_New := (List (List UInt8))
def fndisk_New {β : Type} : Adisk_New → (Ydisk_New → Option β) → Option β := fun a0 exit => (bindO (fnDstrings_Repeat ([(0 : UInt8)], (64 : Int))) fun r => (bindO (fnDslices_Repeat_string_string ([r], if (1000 : Int) < if (0 : Int) > a0 then (0 : Int) else a0 then (1000 : Int) else if (0 : Int) > a0 then (0 : Int) else a0)) fun o0 => (exit (o0))))
def fnDdisk_New (a : Adisk_New) : Option Ydisk_New := fndisk_New a some
theorem fndisk_New_nat (a : Adisk_New) (k : Ydisk_New → Ans) : fndisk_New a k = bindO (fnDdisk_New a) k := by
  obtain z := a
  simp only [fnDdisk_New, fndisk_New, bindO_cond, bindO_assoc, bindO_none, bindO_pure, bindO_elim, bindO_unP]
def argsdisk_New : Adisk_New → List AV × List AE.Obj := fun a0 => ([AV.int IntKind.i64 a0], [])
def decAdisk_New (l : List AV) (H : List AE.Obj) : Option Adisk_New := match l, H with
  | [AV.int IntKind.i64 a0], [] => some (a0)
  | _, _ => none
theorem decAdisk_New_ok (l : List AV) (H : List AE.Obj) (a : Adisk_New) (h : decAdisk_New l H = some a) : (l, H) = argsdisk_New a := by
  unfold decAdisk_New at h
  split at h
  · cases h; rfl
  · cases h
def outdisk_New : Adisk_New → (AV → List AE.Obj → Ans) → Ydisk_New → Ans := fun a0 K => fun o1_y => K (AV.ptr 0 0) [AE.Obj.cells [AV.own 1, AV.map 2, AV.own 3, AV.int IntKind.i64 (0), AV.own 4, AV.int IntKind.i64 (0), AV.bool (false)], Obj.arr Ty.str o1_y, Obj.mp IntKind.i64 Ty.str ([]), Obj.arr (Ty.st (Ty.pair (Ty.int IntKind.i64) Ty.str)) ([]), Obj.arr (Ty.int IntKind.i64) ([])]
theorem fndisk_New_ok (a : Adisk_New) (K : AV → List AE.Obj → Ans) : fnE Try.tab envdisk_New noHint 0 70 12 Try.f12.ntmps Try.f12.results.toList anndisk_New bdisk_New (argsdisk_New a).1 (argsdisk_New a).2 K = fndisk_New a (outdisk_New a K) := by kernel_rfl
def vFdisk_New (a : Adisk_New) (K : AV → List AE.Obj → Ans) : Ans := bindO (fnDdisk_New a) fun y => outdisk_New a K y
def Fdisk_New : List AV → List AE.Obj → (AV → List AE.Obj → Ans) → Ans := fun l H K => bindO (decAdisk_New l H) fun a => vFdisk_New a K
theorem Fdisk_New_ok : FuncOk Try.prog 12 Fdisk_New := func_mkD (hint := noHint) (d := 0) (n := 70) mixed tabOk envdisk_NewOk Try.func12 (bodySome (by kernel_rfl)) (by decide +kernel) anndisk_New_ok decAdisk_New_ok fndisk_New_ok fndisk_New_nat
--@ slices_Index_int_int
noncomputable def envslices_Index_int_int : Env := []
theorem envslices_Index_int_intOk : EnvOk Try.prog envslices_Index_int_int := EnvOk.nil
noncomputable def bslices_Index_int_int : Code := Try.f85.body.getD .skip
noncomputable def Lslices_Index_int_int_n0 : Code := codeAt [1, 0, 1, 0, 0] bslices_Index_int_int
noncomputable def annLslices_Index_int_int_n0 : Ann := .at 0 [0, 1, 7, 8] (.loop .none)
theorem annLslices_Index_int_int_n0_ok : AnnOk Try.prog 19 (.loop Lslices_Index_int_int_n0) annLslices_Index_int_int_n0 := annOk_at (annOk_none _ _ _)
abbrev Islices_Index_int_int_n0 := (List Int) × (Int) × (Int)
abbrev Yslices_Index_int_int_n0 := ((Int)) ⊕ (Unit)
abbrev Vslices_Index_int_int_n0 := (Int)
def Sslices_Index_int_int_n0 : Islices_Index_int_int_n0 → Vslices_Index_int_int_n0 → St := fun (t0, t1, t7) t8 => { env := [(0, AV.ro (Ty.int IntKind.i64) t0), (1, AV.int IntKind.i64 t1), (7, AV.int IntKind.i64 t7), (8, AV.int IntKind.i64 t8)], stk := [[]], H := [], blk := 348160 }
def decslices_Index_int_int_n0 (s : St) : Option (Islices_Index_int_int_n0 × Vslices_Index_int_int_n0) := match s with
  | { env := [(0, AV.ro (Ty.int IntKind.i64) t0), (1, AV.int IntKind.i64 t1), (7, AV.int IntKind.i64 t7), (8, AV.int IntKind.i64 t8)], stk := [[]], H := [], blk := 348160 } => some ((t0, t1, t7), t8)
  | _ => none
theorem decslices_Index_int_int_n0_ok (s : St) (x : Islices_Index_int_int_n0 × Vslices_Index_int_int_n0) (h : decslices_Index_int_int_n0 s = some x) : s = Sslices_Index_int_int_n0 x.1 x.2 := by
  unfold decslices_Index_int_int_n0 at h
  split at h
  · cases h; rfl
  · cases h
def outslices_Index_int_int_n0 : Islices_Index_int_int_n0 → (Ex → St → Ans) → Yslices_Index_int_int_n0 → Ans := fun (t0, t1, t7) K => (Sum.elim (fun t4_y => K (Ex.ret) { env := [(4, AV.int IntKind.i64 t4_y)], stk := [[]], H := [], blk := 348161 }) (fun _ => K (Ex.exit 0) { env := [], stk := [[]], H := [], blk := 348160 }))
def stepslices_Index_int_int_n0 {β : Type} : Islices_Index_int_int_n0 → Vslices_Index_int_int_n0 → (Vslices_Index_int_int_n0 → Option β) → (Yslices_Index_int_int_n0 → Option β) → Option β := fun (t0, t1, t7) t8 next exit => (bif decide (t8 < t7) then (bindO (nth t0 t8) fun x => (bif t1 == x then (exit (Sum.inl (t8))) else (next (IntKind.wrap IntKind.i64 (t8 + (1 : Int)))))) else (exit (Sum.inr ())))
def stepDslices_Index_int_int_n0 (i : Islices_Index_int_int_n0) (v : Vslices_Index_int_int_n0) : Option (Vslices_Index_int_int_n0 ⊕ Yslices_Index_int_int_n0) := stepslices_Index_int_int_n0 i v (fun v => some (.inl v)) (fun y => some (.inr y))
theorem stepslices_Index_int_int_n0_nat (i : Islices_Index_int_int_n0) (v : Vslices_Index_int_int_n0) (next : Vslices_Index_int_int_n0 → Ans) (exit : Yslices_Index_int_int_n0 → Ans) : stepslices_Index_int_int_n0 i v next exit = bindO (stepDslices_Index_int_int_n0 i v) (Sum.elim next exit) := by
  obtain ⟨t0, t1, t7⟩ := i
  obtain z := v
  simp only [stepDslices_Index_int_int_n0, stepslices_Index_int_int_n0, bindO_cond, bindO_assoc, bindO_none, bindO_pure, bindO_elim, bindO_unP, Sum.elim_inl, Sum.elim_inr]
theorem stepslices_Index_int_int_n0_ok (n : Nat) (i : Islices_Index_int_int_n0) (v : Vslices_Index_int_int_n0) (K : Ex → St → Ans) : codeI Try.tab envslices_Index_int_int noHint (codeD Try.tab envslices_Index_int_int noHint 0 64) (n+1) 19 annLslices_Index_int_int_n0 (.loop Lslices_Index_int_int_n0) (weakP 0 (exk [] [4] [(0, [])]) K) (Sslices_Index_int_int_n0 i v) = stepslices_Index_int_int_n0 i v (fun v' => codeI Try.tab envslices_Index_int_int noHint (codeD Try.tab envslices_Index_int_int noHint 0 64) n 19 annLslices_Index_int_int_n0 (.loop Lslices_Index_int_int_n0) (weakP 0 (exk [] [4] [(0, [])]) K) (Sslices_Index_int_int_n0 i v')) (fun y => outslices_Index_int_int_n0 i K y) := by kernel_rfl
theorem GNslices_Index_int_int_n0_ok : CSum Try.prog 19 (.loop Lslices_Index_int_int_n0) (sumL decslices_Index_int_int_n0 stepDslices_Index_int_int_n0 outslices_Index_int_int_n0) := csum_loop mixed tabOk envslices_Index_int_intOk 0 (exk [] [4] [(0, [])]) annLslices_Index_int_int_n0_ok decslices_Index_int_int_n0_ok stepslices_Index_int_int_n0_ok stepslices_Index_int_int_n0_nat
noncomputable def Gslices_Index_int_int_n0 : (Ex → St → Ans) → St → Ans := (sumL decslices_Index_int_int_n0 stepDslices_Index_int_int_n0 outslices_Index_int_int_n0)
theorem Gslices_Index_int_int_n0_ok : CSum Try.prog 19 (.loop Lslices_Index_int_int_n0) Gslices_Index_int_int_n0 := GNslices_Index_int_int_n0_ok
noncomputable def annslices_Index_int_int : Ann := (.seq .none (.seq (.seq .none (.block (.cut 0 [0, 1, 7, 8] Gslices_Index_int_int_n0))) .none))
theorem annslices_Index_int_int_ok : AnnOk Try.prog 19 bslices_Index_int_int annslices_Index_int_int := ⟨(annOk_none _ _ _), ⟨⟨(annOk_none _ _ _), Gslices_Index_int_int_n0_ok⟩, (annOk_none _ _ _)⟩⟩
abbrev Aslices_Index_int_int := (List Int) × (Int)
abbrev Yslices_Index_int_int := (Int)
def fnslices_Index_int_int {β : Type} : Aslices_Index_int_int → (Yslices_Index_int_int → Option β) → Option β := fun (a0, a1) exit => (bindO (loopD (stepDslices_Index_int_int_n0 (a0, a1, (↑(List.length a0) : Int))) FUEL ((0 : Int))) (Sum.elim (fun t4 => (exit (t4))) (fun _ => (exit ((-1 : Int))))))
def fnDslices_Index_int_int (a : Aslices_Index_int_int) : Option Yslices_Index_int_int := fnslices_Index_int_int a some
theorem fnslices_Index_int_int_nat (a : Aslices_Index_int_int) (k : Yslices_Index_int_int → Ans) : fnslices_Index_int_int a k = bindO (fnDslices_Index_int_int a) k := by
  obtain ⟨a0, a1⟩ := a
  simp only [fnDslices_Index_int_int, fnslices_Index_int_int, bindO_cond, bindO_assoc, bindO_none, bindO_pure, bindO_elim, bindO_unP]
def argsslices_Index_int_int : Aslices_Index_int_int → List AV := fun (a0, a1) => [AV.ro (Ty.int IntKind.i64) a0, AV.int IntKind.i64 a1]
def decAslices_Index_int_int (l : List AV) : Option Aslices_Index_int_int := match l with
  | [AV.ro (Ty.int IntKind.i64) a0, AV.int IntKind.i64 a1] => some (a0, a1)
  | _ => none
theorem decAslices_Index_int_int_ok (l : List AV) (a : Aslices_Index_int_int) (h : decAslices_Index_int_int l = some a) : l = argsslices_Index_int_int a := by
  unfold decAslices_Index_int_int at h
  split at h
  · cases h; rfl
  · cases h
def rendslices_Index_int_int : Aslices_Index_int_int → Yslices_Index_int_int → AV := fun (a0, a1) => fun r_y => AV.int IntKind.i64 r_y
theorem rendslices_Index_int_int_ok : ∀ (a : Aslices_Index_int_int) (y : Yslices_Index_int_int), (rendslices_Index_int_int a y).closed1 = true := by
  rintro ⟨a0, a1⟩ y <;> first | rfl | exact Empty.elim y
theorem fnslices_Index_int_int_ok (a : Aslices_Index_int_int) : fnE Try.tab envslices_Index_int_int noHint 0 70 85 Try.f85.ntmps Try.f85.results.toList annslices_Index_int_int bslices_Index_int_int (argsslices_Index_int_int a) [] (fun v _ => some (v, [])) = fnslices_Index_int_int a (fun y => some (rendslices_Index_int_int a y, [])) := by kernel_rfl
def vFslices_Index_int_int (a : Aslices_Index_int_int) (K : AV → Ans) : Ans := bindO (fnDslices_Index_int_int a) fun y => K (rendslices_Index_int_int a y)
def Fslices_Index_int_int : List AV → (AV → Ans) → Ans := fun l K => bindO (decAslices_Index_int_int l) fun a => vFslices_Index_int_int a K
theorem Fslices_Index_int_int_ok : PureOk Try.prog 85 Fslices_Index_int_int := pure_mkD (hint := noHint) (d := 0) (n := 70) mixed tabOk envslices_Index_int_intOk Try.func85 (bodySome (by kernel_rfl)) (by decide +kernel) annslices_Index_int_int_ok decAslices_Index_int_int_ok fnslices_Index_int_int_ok fnslices_Index_int_int_nat rendslices_Index_int_int_ok
--@ slices_Contains_int_int
noncomputable def envslices_Contains_int_int : Env := [(85, .pure Fslices_Index_int_int)]
theorem envslices_Contains_int_intOk : EnvOk Try.prog envslices_Contains_int_int := EnvOk.cons Fslices_Index_int_int_ok (EnvOk.nil)
noncomputable def bslices_Contains_int_int : Code := Try.f66.body.getD .skip
noncomputable def annslices_Contains_int_int : Ann := .none
theorem annslices_Contains_int_int_ok : AnnOk Try.prog 9 bslices_Contains_int_int annslices_Contains_int_int := (annOk_none _ _ _)
abbrev Aslices_Contains_int_int := (List Int) × (Int)
abbrev Yslices_Contains_int_int := (Bool)
def fnslices_Contains_int_int {β : Type} : Aslices_Contains_int_int → (Yslices_Contains_int_int → Option β) → Option β := fun (a0, a1) exit => (bindO (fnDslices_Index_int_int (a0, a1)) fun r => (exit (decide (r ≥ (0 : Int)))))
def fnDslices_Contains_int_int (a : Aslices_Contains_int_int) : Option Yslices_Contains_int_int := fnslices_Contains_int_int a some
theorem fnslices_Contains_int_int_nat (a : Aslices_Contains_int_int) (k : Yslices_Contains_int_int → Ans) : fnslices_Contains_int_int a k = bindO (fnDslices_Contains_int_int a) k := by
  obtain ⟨a0, a1⟩ := a
  simp only [fnDslices_Contains_int_int, fnslices_Contains_int_int, bindO_cond, bindO_assoc, bindO_none, bindO_pure, bindO_elim, bindO_unP]
def argsslices_Contains_int_int : Aslices_Contains_int_int → List AV := fun (a0, a1) => [AV.ro (Ty.int IntKind.i64) a0, AV.int IntKind.i64 a1]
def decAslices_Contains_int_int (l : List AV) : Option Aslices_Contains_int_int := match l with
  | [AV.ro (Ty.int IntKind.i64) a0, AV.int IntKind.i64 a1] => some (a0, a1)
  | _ => none
theorem decAslices_Contains_int_int_ok (l : List AV) (a : Aslices_Contains_int_int) (h : decAslices_Contains_int_int l = some a) : l = argsslices_Contains_int_int a := by
  unfold decAslices_Contains_int_int at h
  split at h
  · cases h; rfl
  · cases h
def rendslices_Contains_int_int : Aslices_Contains_int_int → Yslices_Contains_int_int → AV := fun (a0, a1) => fun r_y => AV.bool r_y
theorem rendslices_Contains_int_int_ok : ∀ (a : Aslices_Contains_int_int) (y : Yslices_Contains_int_int), (rendslices_Contains_int_int a y).closed1 = true := by
  rintro ⟨a0, a1⟩ y <;> first | rfl | exact Empty.elim y
theorem fnslices_Contains_int_int_ok (a : Aslices_Contains_int_int) : fnE Try.tab envslices_Contains_int_int noHint 0 70 66 Try.f66.ntmps Try.f66.results.toList annslices_Contains_int_int bslices_Contains_int_int (argsslices_Contains_int_int a) [] (fun v _ => some (v, [])) = fnslices_Contains_int_int a (fun y => some (rendslices_Contains_int_int a y, [])) := by kernel_rfl
def vFslices_Contains_int_int (a : Aslices_Contains_int_int) (K : AV → Ans) : Ans := bindO (fnDslices_Contains_int_int a) fun y => K (rendslices_Contains_int_int a y)
def Fslices_Contains_int_int : List AV → (AV → Ans) → Ans := fun l K => bindO (decAslices_Contains_int_int l) fun a => vFslices_Contains_int_int a K
theorem Fslices_Contains_int_int_ok : PureOk Try.prog 66 Fslices_Contains_int_int := pure_mkD (hint := noHint) (d := 0) (n := 70) mixed tabOk envslices_Contains_int_intOk Try.func66 (bodySome (by kernel_rfl)) (by decide +kernel) annslices_Contains_int_int_ok decAslices_Contains_int_int_ok fnslices_Contains_int_int_ok fnslices_Contains_int_int_nat rendslices_Contains_int_int_ok
--@ disk_Disk_call
noncomputable def envdisk_Disk_call : Env := [(66, .pure Fslices_Contains_int_int)]
theorem envdisk_Disk_callOk : EnvOk Try.prog envdisk_Disk_call := EnvOk.cons Fslices_Contains_int_int_ok (EnvOk.nil)
noncomputable def bdisk_Disk_call : Code := Try.f59.body.getD .skip
noncomputable def anndisk_Disk_call : Ann := .none
theorem anndisk_Disk_call_ok : AnnOk Try.prog 41 bdisk_Disk_call anndisk_Disk_call := (annOk_none _ _ _)
abbrev Adisk_Disk_call := (Int) × (Int) × (Bool) × (List (List UInt8)) × (List (Int × List UInt8)) × (List (Int × List UInt8)) × (List Int)
abbrev Ydisk_Disk_call := (Int) × (Bool) × (Int) × (Bool)
def fndisk_Disk_call {β : Type} : Adisk_Disk_call → (Ydisk_Disk_call → Option β) → Option β := fun (o0_3, o0_5, o0_6, o1, o2, o3, o4) exit => (bif o0_6 then (exit ((31 : Int), false, IntKind.wrap IntKind.i64 (o0_3 + (1 : Int)), o0_6)) else (bif IntKind.wrap IntKind.i64 (o0_3 + (1 : Int)) == o0_5 then (exit ((31 : Int), true, IntKind.wrap IntKind.i64 (o0_3 + (1 : Int)), true)) else (bindO (fnDslices_Contains_int_int (o4, IntKind.wrap IntKind.i64 (o0_3 + (1 : Int)))) fun r => (bif r then (exit ((30 : Int), false, IntKind.wrap IntKind.i64 (o0_3 + (1 : Int)), o0_6)) else (exit ((0 : Int), false, IntKind.wrap IntKind.i64 (o0_3 + (1 : Int)), o0_6))))))
def fnDdisk_Disk_call (a : Adisk_Disk_call) : Option Ydisk_Disk_call := fndisk_Disk_call a some
theorem fndisk_Disk_call_nat (a : Adisk_Disk_call) (k : Ydisk_Disk_call → Ans) : fndisk_Disk_call a k = bindO (fnDdisk_Disk_call a) k := by
  obtain ⟨o0_3, o0_5, o0_6, o1, o2, o3, o4⟩ := a
  simp only [fnDdisk_Disk_call, fndisk_Disk_call, bindO_cond, bindO_assoc, bindO_none, bindO_pure, bindO_elim, bindO_unP]
def argsdisk_Disk_call : Adisk_Disk_call → List AV × List AE.Obj := fun (o0_3, o0_5, o0_6, o1, o2, o3, o4) => ([AV.ptr 0 0], [AE.Obj.cells [AV.own 1, AV.map 2, AV.own 3, AV.int IntKind.i64 o0_3, AV.own 4, AV.int IntKind.i64 o0_5, AV.bool o0_6], Obj.arr Ty.str o1, Obj.mp IntKind.i64 Ty.str o2, Obj.arr (Ty.st (Ty.pair (Ty.int IntKind.i64) Ty.str)) o3, Obj.arr (Ty.int IntKind.i64) o4])
def decAdisk_Disk_call (l : List AV) (H : List AE.Obj) : Option Adisk_Disk_call := match l, H with
  | [AV.ptr 0 0], [AE.Obj.cells [AV.own 1, AV.map 2, AV.own 3, AV.int IntKind.i64 o0_3, AV.own 4, AV.int IntKind.i64 o0_5, AV.bool o0_6], Obj.arr Ty.str o1, Obj.mp IntKind.i64 Ty.str o2, Obj.arr (Ty.st (Ty.pair (Ty.int IntKind.i64) Ty.str)) o3, Obj.arr (Ty.int IntKind.i64) o4] => some (o0_3, o0_5, o0_6, o1, o2, o3, o4)
  | _, _ => none
theorem decAdisk_Disk_call_ok (l : List AV) (H : List AE.Obj) (a : Adisk_Disk_call) (h : decAdisk_Disk_call l H = some a) : (l, H) = argsdisk_Disk_call a := by
  unfold decAdisk_Disk_call at h
  split at h
  · cases h; rfl
  · cases h
def outdisk_Disk_call : Adisk_Disk_call → (AV → List AE.Obj → Ans) → Ydisk_Disk_call → Ans := fun (o0_3, o0_5, o0_6, o1, o2, o3, o4) K => unP fun r_0_y => unP fun r_1_y => unP fun o0_3_y o0_6_y => K (AV.tup [AV.int IntKind.i64 r_0_y, AV.bool r_1_y]) [AE.Obj.cells [AV.own 1, AV.map 2, AV.own 3, AV.int IntKind.i64 o0_3_y, AV.own 4, AV.int IntKind.i64 o0_5, AV.bool o0_6_y], Obj.arr Ty.str o1, Obj.mp IntKind.i64 Ty.str o2, Obj.arr (Ty.st (Ty.pair (Ty.int IntKind.i64) Ty.str)) o3, Obj.arr (Ty.int IntKind.i64) o4]
theorem fndisk_Disk_call_ok (a : Adisk_Disk_call) (K : AV → List AE.Obj → Ans) : fnE Try.tab envdisk_Disk_call noHint 0 70 59 Try.f59.ntmps Try.f59.results.toList anndisk_Disk_call bdisk_Disk_call (argsdisk_Disk_call a).1 (argsdisk_Disk_call a).2 K = fndisk_Disk_call a (outdisk_Disk_call a K) := by kernel_rfl
def vFdisk_Disk_call (a : Adisk_Disk_call) (K : AV → List AE.Obj → Ans) : Ans := bindO (fnDdisk_Disk_call a) fun y => outdisk_Disk_call a K y
def Fdisk_Disk_call : List AV → List AE.Obj → (AV → List AE.Obj → Ans) → Ans := fun l H K => bindO (decAdisk_Disk_call l H) fun a => vFdisk_Disk_call a K
theorem Fdisk_Disk_call_ok : FuncOk Try.prog 59 Fdisk_Disk_call := func_mkD (hint := noHint) (d := 0) (n := 70) mixed tabOk envdisk_Disk_callOk Try.func59 (bodySome (by kernel_rfl)) (by decide +kernel) anndisk_Disk_call_ok decAdisk_Disk_call_ok fndisk_Disk_call_ok fndisk_Disk_call_nat
--@ disk_Disk_Sectors
noncomputable def envdisk_Disk_Sectors : Env := []
theorem envdisk_Disk_SectorsOk : EnvOk Try.prog envdisk_Disk_Sectors := EnvOk.nil
noncomputable def bdisk_Disk_Sectors : Code := Try.f23.body.getD .skip
noncomputable def anndisk_Disk_Sectors : Ann := .none
theorem anndisk_Disk_Sectors_ok : AnnOk Try.prog 10 bdisk_Disk_Sectors anndisk_Disk_Sectors := (annOk_none _ _ _)
abbrev Adisk_Disk_Sectors := (Int) × (Int) × (Bool) × (List (List UInt8)) × (List (Int × List UInt8)) × (List (Int × List UInt8)) × (List Int)
abbrev Ydisk_Disk_Sectors := (Int)
def fndisk_Disk_Sectors {β : Type} : Adisk_Disk_Sectors → (Ydisk_Disk_Sectors → Option β) → Option β := fun (o0_3, o0_5, o0_6, o1, o2, o3, o4) exit => (exit ((↑(List.length o1) : Int)))
def fnDdisk_Disk_Sectors (a : Adisk_Disk_Sectors) : Option Ydisk_Disk_Sectors := fndisk_Disk_Sectors a some
theorem fndisk_Disk_Sectors_nat (a : Adisk_Disk_Sectors) (k : Ydisk_Disk_Sectors → Ans) : fndisk_Disk_Sectors a k = bindO (fnDdisk_Disk_Sectors a) k := by
  obtain ⟨o0_3, o0_5, o0_6, o1, o2, o3, o4⟩ := a
  simp only [fnDdisk_Disk_Sectors, fndisk_Disk_Sectors, bindO_cond, bindO_assoc, bindO_none, bindO_pure, bindO_elim, bindO_unP]
def argsdisk_Disk_Sectors : Adisk_Disk_Sectors → List AV × List AE.Obj := fun (o0_3, o0_5, o0_6, o1, o2, o3, o4) => ([AV.ptr 0 0], [AE.Obj.cells [AV.own 1, AV.map 2, AV.own 3, AV.int IntKind.i64 o0_3, AV.own 4, AV.int IntKind.i64 o0_5, AV.bool o0_6], Obj.arr Ty.str o1, Obj.mp IntKind.i64 Ty.str o2, Obj.arr (Ty.st (Ty.pair (Ty.int IntKind.i64) Ty.str)) o3, Obj.arr (Ty.int IntKind.i64) o4])
def decAdisk_Disk_Sectors (l : List AV) (H : List AE.Obj) : Option Adisk_Disk_Sectors := match l, H with
  | [AV.ptr 0 0], [AE.Obj.cells [AV.own 1, AV.map 2, AV.own 3, AV.int IntKind.i64 o0_3, AV.own 4, AV.int IntKind.i64 o0_5, AV.bool o0_6], Obj.arr Ty.str o1, Obj.mp IntKind.i64 Ty.str o2, Obj.arr (Ty.st (Ty.pair (Ty.int IntKind.i64) Ty.str)) o3, Obj.arr (Ty.int IntKind.i64) o4] => some (o0_3, o0_5, o0_6, o1, o2, o3, o4)
  | _, _ => none
theorem decAdisk_Disk_Sectors_ok (l : List AV) (H : List AE.Obj) (a : Adisk_Disk_Sectors) (h : decAdisk_Disk_Sectors l H = some a) : (l, H) = argsdisk_Disk_Sectors a := by
  unfold decAdisk_Disk_Sectors at h
  split at h
  · cases h; rfl
  · cases h
def outdisk_Disk_Sectors : Adisk_Disk_Sectors → (AV → List AE.Obj → Ans) → Ydisk_Disk_Sectors → Ans := fun (o0_3, o0_5, o0_6, o1, o2, o3, o4) K => fun r_y => K (AV.int IntKind.i64 r_y) [AE.Obj.cells [AV.own 1, AV.map 2, AV.own 3, AV.int IntKind.i64 o0_3, AV.own 4, AV.int IntKind.i64 o0_5, AV.bool o0_6], Obj.arr Ty.str o1, Obj.mp IntKind.i64 Ty.str o2, Obj.arr (Ty.st (Ty.pair (Ty.int IntKind.i64) Ty.str)) o3, Obj.arr (Ty.int IntKind.i64) o4]
theorem fndisk_Disk_Sectors_ok (a : Adisk_Disk_Sectors) (K : AV → List AE.Obj → Ans) : fnE Try.tab envdisk_Disk_Sectors noHint 0 70 23 Try.f23.ntmps Try.f23.results.toList anndisk_Disk_Sectors bdisk_Disk_Sectors (argsdisk_Disk_Sectors a).1 (argsdisk_Disk_Sectors a).2 K = fndisk_Disk_Sectors a (outdisk_Disk_Sectors a K) := by kernel_rfl
def vFdisk_Disk_Sectors (a : Adisk_Disk_Sectors) (K : AV → List AE.Obj → Ans) : Ans := bindO (fnDdisk_Disk_Sectors a) fun y => outdisk_Disk_Sectors a K y
def Fdisk_Disk_Sectors : List AV → List AE.Obj → (AV → List AE.Obj → Ans) → Ans := fun l H K => bindO (decAdisk_Disk_Sectors l H) fun a => vFdisk_Disk_Sectors a K
theorem Fdisk_Disk_Sectors_ok : FuncOk Try.prog 23 Fdisk_Disk_Sectors := func_mkD (hint := noHint) (d := 0) (n := 70) mixed tabOk envdisk_Disk_SectorsOk Try.func23 (bodySome (by kernel_rfl)) (by decide +kernel) anndisk_Disk_Sectors_ok decAdisk_Disk_Sectors_ok fndisk_Disk_Sectors_ok fndisk_Disk_Sectors_nat
--@ disk_Disk_there
noncomputable def envdisk_Disk_there : Env := [(23, .func Fdisk_Disk_Sectors)]
theorem envdisk_Disk_thereOk : EnvOk Try.prog envdisk_Disk_there := EnvOk.cons Fdisk_Disk_Sectors_ok (EnvOk.nil)
noncomputable def bdisk_Disk_there : Code := Try.f60.body.getD .skip
noncomputable def Ldisk_Disk_there_n0 : Code := codeAt [1, 0] bdisk_Disk_there
noncomputable def annLdisk_Disk_there_n0 : Ann := .none
theorem annLdisk_Disk_there_n0_ok : AnnOk Try.prog 13 Ldisk_Disk_there_n0 annLdisk_Disk_there_n0 := (annOk_none _ _ _)
abbrev Idisk_Disk_there_n0 := (Int) × (Int) × (Int) × (Bool) × (List (List UInt8)) × (List (Int × List UInt8)) × (List (Int × List UInt8)) × (List Int)
abbrev Ydisk_Disk_there_n0 := (Bool)
def Sdisk_Disk_there_n0 : Idisk_Disk_there_n0 → St := fun (t1, o0_3, o0_5, o0_6, o1, o2, o3, o4) => { env := [(0, AV.ptr 0 0), (1, AV.int IntKind.i64 t1)], stk := [[(0, AV.ptr 0 0)]], H := [AE.Obj.cells [AV.own 1, AV.map 2, AV.own 3, AV.int IntKind.i64 o0_3, AV.own 4, AV.int IntKind.i64 o0_5, AV.bool o0_6], Obj.arr Ty.str o1, Obj.mp IntKind.i64 Ty.str o2, Obj.arr (Ty.st (Ty.pair (Ty.int IntKind.i64) Ty.str)) o3, Obj.arr (Ty.int IntKind.i64) o4], blk := 245760 }
def decdisk_Disk_there_n0 (s : St) : Option Idisk_Disk_there_n0 := match s with
  | { env := [(0, AV.ptr 0 0), (1, AV.int IntKind.i64 t1)], stk := [[(0, AV.ptr 0 0)]], H := [AE.Obj.cells [AV.own 1, AV.map 2, AV.own 3, AV.int IntKind.i64 o0_3, AV.own 4, AV.int IntKind.i64 o0_5, AV.bool o0_6], Obj.arr Ty.str o1, Obj.mp IntKind.i64 Ty.str o2, Obj.arr (Ty.st (Ty.pair (Ty.int IntKind.i64) Ty.str)) o3, Obj.arr (Ty.int IntKind.i64) o4], blk := 245760 } => some (t1, o0_3, o0_5, o0_6, o1, o2, o3, o4)
  | _ => none
theorem decdisk_Disk_there_n0_ok (s : St) (x : Idisk_Disk_there_n0) (h : decdisk_Disk_there_n0 s = some x) : s = Sdisk_Disk_there_n0 x := by
  unfold decdisk_Disk_there_n0 at h
  split at h
  · cases h; rfl
  · cases h
def outdisk_Disk_there_n0 : Idisk_Disk_there_n0 → (Ex → St → Ans) → Ydisk_Disk_there_n0 → Ans := fun (t1, o0_3, o0_5, o0_6, o1, o2, o3, o4) K => fun t4_y => K (Ex.norm) { env := [(4, AV.bool t4_y)], stk := [[(0, AV.ptr 0 0)]], H := [AE.Obj.cells [AV.own 1, AV.map 2, AV.own 3, AV.int IntKind.i64 o0_3, AV.own 4, AV.int IntKind.i64 o0_5, AV.bool o0_6], Obj.arr Ty.str o1, Obj.mp IntKind.i64 Ty.str o2, Obj.arr (Ty.st (Ty.pair (Ty.int IntKind.i64) Ty.str)) o3, Obj.arr (Ty.int IntKind.i64) o4], blk := 245760 }
def nodedisk_Disk_there_n0 {β : Type} : Idisk_Disk_there_n0 → (Ydisk_Disk_there_n0 → Option β) → Option β := fun (t1, o0_3, o0_5, o0_6, o1, o2, o3, o4) exit => (bif decide (t1 ≥ (0 : Int)) then (bindO (fnDdisk_Disk_Sectors (o0_3, o0_5, o0_6, o1, o2, o3, o4)) fun r => (exit (decide (t1 < r)))) else (exit (false)))
def nodeDdisk_Disk_there_n0 (i : Idisk_Disk_there_n0) : Option Ydisk_Disk_there_n0 := nodedisk_Disk_there_n0 i some
theorem nodedisk_Disk_there_n0_nat (i : Idisk_Disk_there_n0) (k : Ydisk_Disk_there_n0 → Ans) : nodedisk_Disk_there_n0 i k = bindO (nodeDdisk_Disk_there_n0 i) k := by
  obtain ⟨t1, o0_3, o0_5, o0_6, o1, o2, o3, o4⟩ := i
  simp only [nodeDdisk_Disk_there_n0, nodedisk_Disk_there_n0, bindO_cond, bindO_assoc, bindO_none, bindO_pure, bindO_elim, bindO_unP]
theorem nodedisk_Disk_there_n0_ok (i : Idisk_Disk_there_n0) (K : Ex → St → Ans) : codeI Try.tab envdisk_Disk_there noHint (codeD Try.tab envdisk_Disk_there noHint 0 64) 70 13 annLdisk_Disk_there_n0 Ldisk_Disk_there_n0 (weakP 5 (exk [4] [4] []) K) (Sdisk_Disk_there_n0 i) = nodedisk_Disk_there_n0 i (outdisk_Disk_there_n0 i K) := by kernel_rfl
theorem GNdisk_Disk_there_n0_ok : CSum Try.prog 13 Ldisk_Disk_there_n0 (sumN decdisk_Disk_there_n0 nodeDdisk_Disk_there_n0 outdisk_Disk_there_n0) := csum_node mixed tabOk envdisk_Disk_thereOk 5 (exk [4] [4] []) annLdisk_Disk_there_n0_ok decdisk_Disk_there_n0_ok nodedisk_Disk_there_n0_ok nodedisk_Disk_there_n0_nat
noncomputable def Gdisk_Disk_there_n0 : (Ex → St → Ans) → St → Ans := (sumN decdisk_Disk_there_n0 nodeDdisk_Disk_there_n0 outdisk_Disk_there_n0)
theorem Gdisk_Disk_there_n0_ok : CSum Try.prog 13 Ldisk_Disk_there_n0 Gdisk_Disk_there_n0 := GNdisk_Disk_there_n0_ok
noncomputable def anndisk_Disk_there : Ann := (.seq .none (.seq (.cut 5 [0, 1] Gdisk_Disk_there_n0) .none))
theorem anndisk_Disk_there_ok : AnnOk Try.prog 13 bdisk_Disk_there anndisk_Disk_there := ⟨(annOk_none _ _ _), ⟨Gdisk_Disk_there_n0_ok, (annOk_none _ _ _)⟩⟩
abbrev Adisk_Disk_there := (Int) × (Int) × (Int) × (Bool) × (List (List UInt8)) × (List (Int × List UInt8)) × (List (Int × List UInt8)) × (List Int)
abbrev Ydisk_Disk_there := (Bool)
def fndisk_Disk_there {β : Type} : Adisk_Disk_there → (Ydisk_Disk_there → Option β) → Option β := fun (a1, o0_3, o0_5, o0_6, o1, o2, o3, o4) exit => (bindO (nodeDdisk_Disk_there_n0 (a1, o0_3, o0_5, o0_6, o1, o2, o3, o4)) fun t4 => (exit (t4)))
def fnDdisk_Disk_there (a : Adisk_Disk_there) : Option Ydisk_Disk_there := fndisk_Disk_there a some
theorem fndisk_Disk_there_nat (a : Adisk_Disk_there) (k : Ydisk_Disk_there → Ans) : fndisk_Disk_there a k = bindO (fnDdisk_Disk_there a) k := by
  obtain ⟨a1, o0_3, o0_5, o0_6, o1, o2, o3, o4⟩ := a
  simp only [fnDdisk_Disk_there, fndisk_Disk_there, bindO_cond, bindO_assoc, bindO_none, bindO_pure, bindO_elim, bindO_unP]
def argsdisk_Disk_there : Adisk_Disk_there → List AV × List AE.Obj := fun (a1, o0_3, o0_5, o0_6, o1, o2, o3, o4) => ([AV.ptr 0 0, AV.int IntKind.i64 a1], [AE.Obj.cells [AV.own 1, AV.map 2, AV.own 3, AV.int IntKind.i64 o0_3, AV.own 4, AV.int IntKind.i64 o0_5, AV.bool o0_6], Obj.arr Ty.str o1, Obj.mp IntKind.i64 Ty.str o2, Obj.arr (Ty.st (Ty.pair (Ty.int IntKind.i64) Ty.str)) o3, Obj.arr (Ty.int IntKind.i64) o4])
def decAdisk_Disk_there (l : List AV) (H : List AE.Obj) : Option Adisk_Disk_there := match l, H with
  | [AV.ptr 0 0, AV.int IntKind.i64 a1], [AE.Obj.cells [AV.own 1, AV.map 2, AV.own 3, AV.int IntKind.i64 o0_3, AV.own 4, AV.int IntKind.i64 o0_5, AV.bool o0_6], Obj.arr Ty.str o1, Obj.mp IntKind.i64 Ty.str o2, Obj.arr (Ty.st (Ty.pair (Ty.int IntKind.i64) Ty.str)) o3, Obj.arr (Ty.int IntKind.i64) o4] => some (a1, o0_3, o0_5, o0_6, o1, o2, o3, o4)
  | _, _ => none
theorem decAdisk_Disk_there_ok (l : List AV) (H : List AE.Obj) (a : Adisk_Disk_there) (h : decAdisk_Disk_there l H = some a) : (l, H) = argsdisk_Disk_there a := by
  unfold decAdisk_Disk_there at h
  split at h
  · cases h; rfl
  · cases h
def outdisk_Disk_there : Adisk_Disk_there → (AV → List AE.Obj → Ans) → Ydisk_Disk_there → Ans := fun (a1, o0_3, o0_5, o0_6, o1, o2, o3, o4) K => fun r_y => K (AV.bool r_y) [AE.Obj.cells [AV.own 1, AV.map 2, AV.own 3, AV.int IntKind.i64 o0_3, AV.own 4, AV.int IntKind.i64 o0_5, AV.bool o0_6], Obj.arr Ty.str o1, Obj.mp IntKind.i64 Ty.str o2, Obj.arr (Ty.st (Ty.pair (Ty.int IntKind.i64) Ty.str)) o3, Obj.arr (Ty.int IntKind.i64) o4]
theorem fndisk_Disk_there_ok (a : Adisk_Disk_there) (K : AV → List AE.Obj → Ans) : fnE Try.tab envdisk_Disk_there noHint 0 70 60 Try.f60.ntmps Try.f60.results.toList anndisk_Disk_there bdisk_Disk_there (argsdisk_Disk_there a).1 (argsdisk_Disk_there a).2 K = fndisk_Disk_there a (outdisk_Disk_there a K) := by kernel_rfl
def vFdisk_Disk_there (a : Adisk_Disk_there) (K : AV → List AE.Obj → Ans) : Ans := bindO (fnDdisk_Disk_there a) fun y => outdisk_Disk_there a K y
def Fdisk_Disk_there : List AV → List AE.Obj → (AV → List AE.Obj → Ans) → Ans := fun l H K => bindO (decAdisk_Disk_there l H) fun a => vFdisk_Disk_there a K
theorem Fdisk_Disk_there_ok : FuncOk Try.prog 60 Fdisk_Disk_there := func_mkD (hint := noHint) (d := 0) (n := 70) mixed tabOk envdisk_Disk_thereOk Try.func60 (bodySome (by kernel_rfl)) (by decide +kernel) anndisk_Disk_there_ok decAdisk_Disk_there_ok fndisk_Disk_there_ok fndisk_Disk_there_nat
--@ disk_Disk_Write
noncomputable def envdisk_Disk_Write : Env := [(59, .func Fdisk_Disk_call), (60, .func Fdisk_Disk_there)]
theorem envdisk_Disk_WriteOk : EnvOk Try.prog envdisk_Disk_Write := EnvOk.cons Fdisk_Disk_call_ok (EnvOk.cons Fdisk_Disk_there_ok (EnvOk.nil))
noncomputable def bdisk_Disk_Write : Code := Try.f13.body.getD .skip
noncomputable def Ldisk_Disk_Write_n3 : Code := codeAt [1, 1, 1, 1, 0, 1] bdisk_Disk_Write
noncomputable def annLdisk_Disk_Write_n3 : Ann := .none
theorem annLdisk_Disk_Write_n3_ok : AnnOk Try.prog 64 Ldisk_Disk_Write_n3 annLdisk_Disk_Write_n3 := (annOk_none _ _ _)
abbrev Idisk_Disk_Write_n3 := (Int) × (List UInt8) × (Int) × (Int) × (Int) × (Bool) × (List (List UInt8)) × (List (Int × List UInt8)) × (List (Int × List UInt8)) × (List Int)
abbrev Ydisk_Disk_Write_n3 := Unit
def Sdisk_Disk_Write_n3 : Idisk_Disk_Write_n3 → St := fun (t1, t2, t7, o0_3, o0_5, o0_6, o1, o2, o3, o4) => { env := [(0, AV.ptr 0 0), (1, AV.int IntKind.i64 t1), (2, AV.str t2), (7, AV.int IntKind.i64 t7), (40, AV.bool (false))], stk := [[(0, AV.ptr 0 0)]], H := [AE.Obj.cells [AV.own 1, AV.map 2, AV.own 3, AV.int IntKind.i64 o0_3, AV.own 4, AV.int IntKind.i64 o0_5, AV.bool o0_6], Obj.arr Ty.str o1, Obj.mp IntKind.i64 Ty.str o2, Obj.arr (Ty.st (Ty.pair (Ty.int IntKind.i64) Ty.str)) o3, Obj.arr (Ty.int IntKind.i64) o4], blk := 53248 }
def decdisk_Disk_Write_n3 (s : St) : Option Idisk_Disk_Write_n3 := match s with
  | { env := [(0, AV.ptr 0 0), (1, AV.int IntKind.i64 t1), (2, AV.str t2), (7, AV.int IntKind.i64 t7), (40, AV.bool r3)], stk := [[(0, AV.ptr 0 0)]], H := [AE.Obj.cells [AV.own 1, AV.map 2, AV.own 3, AV.int IntKind.i64 o0_3, AV.own 4, AV.int IntKind.i64 o0_5, AV.bool o0_6], Obj.arr Ty.str o1, Obj.mp IntKind.i64 Ty.str o2, Obj.arr (Ty.st (Ty.pair (Ty.int IntKind.i64) Ty.str)) o3, Obj.arr (Ty.int IntKind.i64) o4], blk := 53248 } => cond (decide (r3 = false)) (some (t1, t2, t7, o0_3, o0_5, o0_6, o1, o2, o3, o4)) none
  | _ => none
theorem decdisk_Disk_Write_n3_ok (s : St) (x : Idisk_Disk_Write_n3) (h : decdisk_Disk_Write_n3 s = some x) : s = Sdisk_Disk_Write_n3 x := by
  unfold decdisk_Disk_Write_n3 at h
  split at h
  · replace h := cond_noneO h; obtain ⟨hg, h⟩ := h; simp only [Bool.and_eq_true, decide_eq_true_eq] at hg; simp only [hg]; cases h; rfl
  · cases h
def outdisk_Disk_Write_n3 : Idisk_Disk_Write_n3 → (Ex → St → Ans) → Ydisk_Disk_Write_n3 → Ans := fun (t1, t2, t7, o0_3, o0_5, o0_6, o1, o2, o3, o4) K => fun _ => K (Ex.norm) { env := [(0, AV.ptr 0 0), (1, AV.int IntKind.i64 t1), (2, AV.str t2), (7, AV.int IntKind.i64 t7)], stk := [[(0, AV.ptr 0 0)]], H := [AE.Obj.cells [AV.own 1, AV.map 2, AV.own 3, AV.int IntKind.i64 o0_3, AV.own 4, AV.int IntKind.i64 o0_5, AV.bool o0_6], Obj.arr Ty.str o1, Obj.mp IntKind.i64 Ty.str o2, Obj.arr (Ty.st (Ty.pair (Ty.int IntKind.i64) Ty.str)) o3, Obj.arr (Ty.int IntKind.i64) o4], blk := 53248 }
def nodedisk_Disk_Write_n3 {β : Type} : Idisk_Disk_Write_n3 → (Ydisk_Disk_Write_n3 → Option β) → Option β := fun (t1, t2, t7, o0_3, o0_5, o0_6, o1, o2, o3, o4) exit => (exit ())
def nodeDdisk_Disk_Write_n3 (i : Idisk_Disk_Write_n3) : Option Ydisk_Disk_Write_n3 := nodedisk_Disk_Write_n3 i some
theorem nodedisk_Disk_Write_n3_nat (i : Idisk_Disk_Write_n3) (k : Ydisk_Disk_Write_n3 → Ans) : nodedisk_Disk_Write_n3 i k = bindO (nodeDdisk_Disk_Write_n3 i) k := by
  obtain ⟨t1, t2, t7, o0_3, o0_5, o0_6, o1, o2, o3, o4⟩ := i
  simp only [nodeDdisk_Disk_Write_n3, nodedisk_Disk_Write_n3, bindO_cond, bindO_assoc, bindO_none, bindO_pure, bindO_elim, bindO_unP]
theorem nodedisk_Disk_Write_n3_ok (i : Idisk_Disk_Write_n3) (K : Ex → St → Ans) : codeI Try.tab envdisk_Disk_Write noHint (codeD Try.tab envdisk_Disk_Write noHint 0 64) 70 64 annLdisk_Disk_Write_n3 Ldisk_Disk_Write_n3 (weakP 5 (exk [0, 1, 2, 7] [6] []) K) (Sdisk_Disk_Write_n3 i) = nodedisk_Disk_Write_n3 i (outdisk_Disk_Write_n3 i K) := by kernel_rfl
theorem GNdisk_Disk_Write_n3_ok : CSum Try.prog 64 Ldisk_Disk_Write_n3 (sumN decdisk_Disk_Write_n3 nodeDdisk_Disk_Write_n3 outdisk_Disk_Write_n3) := csum_node mixed tabOk envdisk_Disk_WriteOk 5 (exk [0, 1, 2, 7] [6] []) annLdisk_Disk_Write_n3_ok decdisk_Disk_Write_n3_ok nodedisk_Disk_Write_n3_ok nodedisk_Disk_Write_n3_nat
noncomputable def Gdisk_Disk_Write_n3 : (Ex → St → Ans) → St → Ans := (sumN decdisk_Disk_Write_n3 nodeDdisk_Disk_Write_n3 outdisk_Disk_Write_n3)
theorem Gdisk_Disk_Write_n3_ok : CSum Try.prog 64 Ldisk_Disk_Write_n3 Gdisk_Disk_Write_n3 := GNdisk_Disk_Write_n3_ok
noncomputable def Ldisk_Disk_Write_n2 : Code := codeAt [1, 1, 1, 0, 0, 1, 1, 1, 0, 0, 1] bdisk_Disk_Write
noncomputable def annLdisk_Disk_Write_n2 : Ann := .none
theorem annLdisk_Disk_Write_n2_ok : AnnOk Try.prog 64 Ldisk_Disk_Write_n2 annLdisk_Disk_Write_n2 := (annOk_none _ _ _)
abbrev Idisk_Disk_Write_n2 := (Int) × (Bool) × (Int) × (Int) × (Bool) × (List (List UInt8)) × (List (Int × List UInt8)) × (List (Int × List UInt8)) × (List Int)
abbrev Ydisk_Disk_Write_n2 := (Int)
def Sdisk_Disk_Write_n2 : Idisk_Disk_Write_n2 → St := fun (t7, t34, o0_3, o0_5, o0_6, o1, o2, o3, o4) => { env := [(7, AV.int IntKind.i64 t7), (34, AV.bool t34)], stk := [[(0, AV.ptr 0 0)]], H := [AE.Obj.cells [AV.own 1, AV.map 2, AV.own 3, AV.int IntKind.i64 o0_3, AV.own 4, AV.int IntKind.i64 o0_5, AV.bool o0_6], Obj.arr Ty.str o1, Obj.mp IntKind.i64 Ty.str o2, Obj.arr (Ty.st (Ty.pair (Ty.int IntKind.i64) Ty.str)) o3, Obj.arr (Ty.int IntKind.i64) o4], blk := 53248 }
def decdisk_Disk_Write_n2 (s : St) : Option Idisk_Disk_Write_n2 := match s with
  | { env := [(7, AV.int IntKind.i64 t7), (34, AV.bool t34)], stk := [[(0, AV.ptr 0 0)]], H := [AE.Obj.cells [AV.own 1, AV.map 2, AV.own 3, AV.int IntKind.i64 o0_3, AV.own 4, AV.int IntKind.i64 o0_5, AV.bool o0_6], Obj.arr Ty.str o1, Obj.mp IntKind.i64 Ty.str o2, Obj.arr (Ty.st (Ty.pair (Ty.int IntKind.i64) Ty.str)) o3, Obj.arr (Ty.int IntKind.i64) o4], blk := 53248 } => some (t7, t34, o0_3, o0_5, o0_6, o1, o2, o3, o4)
  | _ => none
theorem decdisk_Disk_Write_n2_ok (s : St) (x : Idisk_Disk_Write_n2) (h : decdisk_Disk_Write_n2 s = some x) : s = Sdisk_Disk_Write_n2 x := by
  unfold decdisk_Disk_Write_n2 at h
  split at h
  · cases h; rfl
  · cases h
def outdisk_Disk_Write_n2 : Idisk_Disk_Write_n2 → (Ex → St → Ans) → Ydisk_Disk_Write_n2 → Ans := fun (t7, t34, o0_3, o0_5, o0_6, o1, o2, o3, o4) K => fun t7_y => K (Ex.norm) { env := [(7, AV.int IntKind.i64 t7_y)], stk := [[(0, AV.ptr 0 0)]], H := [AE.Obj.cells [AV.own 1, AV.map 2, AV.own 3, AV.int IntKind.i64 o0_3, AV.own 4, AV.int IntKind.i64 o0_5, AV.bool o0_6], Obj.arr Ty.str o1, Obj.mp IntKind.i64 Ty.str o2, Obj.arr (Ty.st (Ty.pair (Ty.int IntKind.i64) Ty.str)) o3, Obj.arr (Ty.int IntKind.i64) o4], blk := 53248 }
def nodedisk_Disk_Write_n2 {β : Type} : Idisk_Disk_Write_n2 → (Ydisk_Disk_Write_n2 → Option β) → Option β := fun (t7, t34, o0_3, o0_5, o0_6, o1, o2, o3, o4) exit => (bif t34 then (exit ((12 : Int))) else (exit (t7)))
def nodeDdisk_Disk_Write_n2 (i : Idisk_Disk_Write_n2) : Option Ydisk_Disk_Write_n2 := nodedisk_Disk_Write_n2 i some
theorem nodedisk_Disk_Write_n2_nat (i : Idisk_Disk_Write_n2) (k : Ydisk_Disk_Write_n2 → Ans) : nodedisk_Disk_Write_n2 i k = bindO (nodeDdisk_Disk_Write_n2 i) k := by
  obtain ⟨t7, t34, o0_3, o0_5, o0_6, o1, o2, o3, o4⟩ := i
  simp only [nodeDdisk_Disk_Write_n2, nodedisk_Disk_Write_n2, bindO_cond, bindO_assoc, bindO_none, bindO_pure, bindO_elim, bindO_unP]
theorem nodedisk_Disk_Write_n2_ok (i : Idisk_Disk_Write_n2) (K : Ex → St → Ans) : codeI Try.tab envdisk_Disk_Write noHint (codeD Try.tab envdisk_Disk_Write noHint 0 64) 70 64 annLdisk_Disk_Write_n2 Ldisk_Disk_Write_n2 (weakP 5 (exk [7] [6] []) K) (Sdisk_Disk_Write_n2 i) = nodedisk_Disk_Write_n2 i (outdisk_Disk_Write_n2 i K) := by kernel_rfl
theorem GNdisk_Disk_Write_n2_ok : CSum Try.prog 64 Ldisk_Disk_Write_n2 (sumN decdisk_Disk_Write_n2 nodeDdisk_Disk_Write_n2 outdisk_Disk_Write_n2) := csum_node mixed tabOk envdisk_Disk_WriteOk 5 (exk [7] [6] []) annLdisk_Disk_Write_n2_ok decdisk_Disk_Write_n2_ok nodedisk_Disk_Write_n2_ok nodedisk_Disk_Write_n2_nat
noncomputable def Gdisk_Disk_Write_n2 : (Ex → St → Ans) → St → Ans := (sumN decdisk_Disk_Write_n2 nodeDdisk_Disk_Write_n2 outdisk_Disk_Write_n2)
theorem Gdisk_Disk_Write_n2_ok : CSum Try.prog 64 Ldisk_Disk_Write_n2 Gdisk_Disk_Write_n2 := GNdisk_Disk_Write_n2_ok
noncomputable def Ldisk_Disk_Write_n1 : Code := codeAt [1, 1, 1, 0, 0, 1, 0, 0, 1] bdisk_Disk_Write
noncomputable def annLdisk_Disk_Write_n1 : Ann := .none
theorem annLdisk_Disk_Write_n1_ok : AnnOk Try.prog 64 Ldisk_Disk_Write_n1 annLdisk_Disk_Write_n1 := (annOk_none _ _ _)
abbrev Idisk_Disk_Write_n1 := (Int) × (Bool) × (Int) × (Int) × (Bool) × (List (List UInt8)) × (List (Int × List UInt8)) × (List (Int × List UInt8)) × (List Int)
abbrev Ydisk_Disk_Write_n1 := (Int)
def Sdisk_Disk_Write_n1 : Idisk_Disk_Write_n1 → St := fun (t7, t27, o0_3, o0_5, o0_6, o1, o2, o3, o4) => { env := [(7, AV.int IntKind.i64 t7), (27, AV.bool t27)], stk := [[(0, AV.ptr 0 0)]], H := [AE.Obj.cells [AV.own 1, AV.map 2, AV.own 3, AV.int IntKind.i64 o0_3, AV.own 4, AV.int IntKind.i64 o0_5, AV.bool o0_6], Obj.arr Ty.str o1, Obj.mp IntKind.i64 Ty.str o2, Obj.arr (Ty.st (Ty.pair (Ty.int IntKind.i64) Ty.str)) o3, Obj.arr (Ty.int IntKind.i64) o4], blk := 53248 }
def decdisk_Disk_Write_n1 (s : St) : Option Idisk_Disk_Write_n1 := match s with
  | { env := [(7, AV.int IntKind.i64 t7), (27, AV.bool t27)], stk := [[(0, AV.ptr 0 0)]], H := [AE.Obj.cells [AV.own 1, AV.map 2, AV.own 3, AV.int IntKind.i64 o0_3, AV.own 4, AV.int IntKind.i64 o0_5, AV.bool o0_6], Obj.arr Ty.str o1, Obj.mp IntKind.i64 Ty.str o2, Obj.arr (Ty.st (Ty.pair (Ty.int IntKind.i64) Ty.str)) o3, Obj.arr (Ty.int IntKind.i64) o4], blk := 53248 } => some (t7, t27, o0_3, o0_5, o0_6, o1, o2, o3, o4)
  | _ => none
theorem decdisk_Disk_Write_n1_ok (s : St) (x : Idisk_Disk_Write_n1) (h : decdisk_Disk_Write_n1 s = some x) : s = Sdisk_Disk_Write_n1 x := by
  unfold decdisk_Disk_Write_n1 at h
  split at h
  · cases h; rfl
  · cases h
def outdisk_Disk_Write_n1 : Idisk_Disk_Write_n1 → (Ex → St → Ans) → Ydisk_Disk_Write_n1 → Ans := fun (t7, t27, o0_3, o0_5, o0_6, o1, o2, o3, o4) K => fun t7_y => K (Ex.norm) { env := [(7, AV.int IntKind.i64 t7_y)], stk := [[(0, AV.ptr 0 0)]], H := [AE.Obj.cells [AV.own 1, AV.map 2, AV.own 3, AV.int IntKind.i64 o0_3, AV.own 4, AV.int IntKind.i64 o0_5, AV.bool o0_6], Obj.arr Ty.str o1, Obj.mp IntKind.i64 Ty.str o2, Obj.arr (Ty.st (Ty.pair (Ty.int IntKind.i64) Ty.str)) o3, Obj.arr (Ty.int IntKind.i64) o4], blk := 53248 }
def nodedisk_Disk_Write_n1 {β : Type} : Idisk_Disk_Write_n1 → (Ydisk_Disk_Write_n1 → Option β) → Option β := fun (t7, t27, o0_3, o0_5, o0_6, o1, o2, o3, o4) exit => (bif t27 then (exit ((3 : Int))) else (exit (t7)))
def nodeDdisk_Disk_Write_n1 (i : Idisk_Disk_Write_n1) : Option Ydisk_Disk_Write_n1 := nodedisk_Disk_Write_n1 i some
theorem nodedisk_Disk_Write_n1_nat (i : Idisk_Disk_Write_n1) (k : Ydisk_Disk_Write_n1 → Ans) : nodedisk_Disk_Write_n1 i k = bindO (nodeDdisk_Disk_Write_n1 i) k := by
  obtain ⟨t7, t27, o0_3, o0_5, o0_6, o1, o2, o3, o4⟩ := i
  simp only [nodeDdisk_Disk_Write_n1, nodedisk_Disk_Write_n1, bindO_cond, bindO_assoc, bindO_none, bindO_pure, bindO_elim, bindO_unP]
theorem nodedisk_Disk_Write_n1_ok (i : Idisk_Disk_Write_n1) (K : Ex → St → Ans) : codeI Try.tab envdisk_Disk_Write noHint (codeD Try.tab envdisk_Disk_Write noHint 0 64) 70 64 annLdisk_Disk_Write_n1 Ldisk_Disk_Write_n1 (weakP 5 (exk [7] [6] []) K) (Sdisk_Disk_Write_n1 i) = nodedisk_Disk_Write_n1 i (outdisk_Disk_Write_n1 i K) := by kernel_rfl
theorem GNdisk_Disk_Write_n1_ok : CSum Try.prog 64 Ldisk_Disk_Write_n1 (sumN decdisk_Disk_Write_n1 nodeDdisk_Disk_Write_n1 outdisk_Disk_Write_n1) := csum_node mixed tabOk envdisk_Disk_WriteOk 5 (exk [7] [6] []) annLdisk_Disk_Write_n1_ok decdisk_Disk_Write_n1_ok nodedisk_Disk_Write_n1_ok nodedisk_Disk_Write_n1_nat
noncomputable def Gdisk_Disk_Write_n1 : (Ex → St → Ans) → St → Ans := (sumN decdisk_Disk_Write_n1 nodeDdisk_Disk_Write_n1 outdisk_Disk_Write_n1)
theorem Gdisk_Disk_Write_n1_ok : CSum Try.prog 64 Ldisk_Disk_Write_n1 Gdisk_Disk_Write_n1 := GNdisk_Disk_Write_n1_ok
noncomputable def Ldisk_Disk_Write_n0 : Code := codeAt [1, 1, 0, 0] bdisk_Disk_Write
noncomputable def annLdisk_Disk_Write_n0 : Ann := .none
theorem annLdisk_Disk_Write_n0_ok : AnnOk Try.prog 64 Ldisk_Disk_Write_n0 annLdisk_Disk_Write_n0 := (annOk_none _ _ _)
abbrev Idisk_Disk_Write_n0 := (Int) × (List UInt8) × (Int) × (Bool) × (Int) × (Int) × (Bool) × (List (List UInt8)) × (List (Int × List UInt8)) × (List (Int × List UInt8)) × (List Int)
abbrev Ydisk_Disk_Write_n0 := (Bool)
def Sdisk_Disk_Write_n0 : Idisk_Disk_Write_n0 → St := fun (t1, t2, t7, t8, o0_3, o0_5, o0_6, o1, o2, o3, o4) => { env := [(0, AV.ptr 0 0), (1, AV.int IntKind.i64 t1), (2, AV.str t2), (7, AV.int IntKind.i64 t7), (8, AV.bool t8)], stk := [[(0, AV.ptr 0 0)]], H := [AE.Obj.cells [AV.own 1, AV.map 2, AV.own 3, AV.int IntKind.i64 o0_3, AV.own 4, AV.int IntKind.i64 o0_5, AV.bool o0_6], Obj.arr Ty.str o1, Obj.mp IntKind.i64 Ty.str o2, Obj.arr (Ty.st (Ty.pair (Ty.int IntKind.i64) Ty.str)) o3, Obj.arr (Ty.int IntKind.i64) o4], blk := 53248 }
def decdisk_Disk_Write_n0 (s : St) : Option Idisk_Disk_Write_n0 := match s with
  | { env := [(0, AV.ptr 0 0), (1, AV.int IntKind.i64 t1), (2, AV.str t2), (7, AV.int IntKind.i64 t7), (8, AV.bool t8)], stk := [[(0, AV.ptr 0 0)]], H := [AE.Obj.cells [AV.own 1, AV.map 2, AV.own 3, AV.int IntKind.i64 o0_3, AV.own 4, AV.int IntKind.i64 o0_5, AV.bool o0_6], Obj.arr Ty.str o1, Obj.mp IntKind.i64 Ty.str o2, Obj.arr (Ty.st (Ty.pair (Ty.int IntKind.i64) Ty.str)) o3, Obj.arr (Ty.int IntKind.i64) o4], blk := 53248 } => some (t1, t2, t7, t8, o0_3, o0_5, o0_6, o1, o2, o3, o4)
  | _ => none
theorem decdisk_Disk_Write_n0_ok (s : St) (x : Idisk_Disk_Write_n0) (h : decdisk_Disk_Write_n0 s = some x) : s = Sdisk_Disk_Write_n0 x := by
  unfold decdisk_Disk_Write_n0 at h
  split at h
  · cases h; rfl
  · cases h
def outdisk_Disk_Write_n0 : Idisk_Disk_Write_n0 → (Ex → St → Ans) → Ydisk_Disk_Write_n0 → Ans := fun (t1, t2, t7, t8, o0_3, o0_5, o0_6, o1, o2, o3, o4) K => fun t19_y => K (Ex.norm) { env := [(0, AV.ptr 0 0), (1, AV.int IntKind.i64 t1), (2, AV.str t2), (7, AV.int IntKind.i64 t7), (8, AV.bool t8), (19, AV.bool t19_y)], stk := [[(0, AV.ptr 0 0)]], H := [AE.Obj.cells [AV.own 1, AV.map 2, AV.own 3, AV.int IntKind.i64 o0_3, AV.own 4, AV.int IntKind.i64 o0_5, AV.bool o0_6], Obj.arr Ty.str o1, Obj.mp IntKind.i64 Ty.str o2, Obj.arr (Ty.st (Ty.pair (Ty.int IntKind.i64) Ty.str)) o3, Obj.arr (Ty.int IntKind.i64) o4], blk := 53248 }
def nodedisk_Disk_Write_n0 {β : Type} : Idisk_Disk_Write_n0 → (Ydisk_Disk_Write_n0 → Option β) → Option β := fun (t1, t2, t7, t8, o0_3, o0_5, o0_6, o1, o2, o3, o4) exit => (bif t7 != (0 : Int) then (exit (!t8)) else (exit (false)))
def nodeDdisk_Disk_Write_n0 (i : Idisk_Disk_Write_n0) : Option Ydisk_Disk_Write_n0 := nodedisk_Disk_Write_n0 i some
theorem nodedisk_Disk_Write_n0_nat (i : Idisk_Disk_Write_n0) (k : Ydisk_Disk_Write_n0 → Ans) : nodedisk_Disk_Write_n0 i k = bindO (nodeDdisk_Disk_Write_n0 i) k := by
  obtain ⟨t1, t2, t7, t8, o0_3, o0_5, o0_6, o1, o2, o3, o4⟩ := i
  simp only [nodeDdisk_Disk_Write_n0, nodedisk_Disk_Write_n0, bindO_cond, bindO_assoc, bindO_none, bindO_pure, bindO_elim, bindO_unP]
theorem nodedisk_Disk_Write_n0_ok (i : Idisk_Disk_Write_n0) (K : Ex → St → Ans) : codeI Try.tab envdisk_Disk_Write noHint (codeD Try.tab envdisk_Disk_Write noHint 0 64) 70 64 annLdisk_Disk_Write_n0 Ldisk_Disk_Write_n0 (weakP 5 (exk [0, 1, 2, 7, 8, 19] [6] []) K) (Sdisk_Disk_Write_n0 i) = nodedisk_Disk_Write_n0 i (outdisk_Disk_Write_n0 i K) := by kernel_rfl
theorem GNdisk_Disk_Write_n0_ok : CSum Try.prog 64 Ldisk_Disk_Write_n0 (sumN decdisk_Disk_Write_n0 nodeDdisk_Disk_Write_n0 outdisk_Disk_Write_n0) := csum_node mixed tabOk envdisk_Disk_WriteOk 5 (exk [0, 1, 2, 7, 8, 19] [6] []) annLdisk_Disk_Write_n0_ok decdisk_Disk_Write_n0_ok nodedisk_Disk_Write_n0_ok nodedisk_Disk_Write_n0_nat
noncomputable def Gdisk_Disk_Write_n0 : (Ex → St → Ans) → St → Ans := (sumN decdisk_Disk_Write_n0 nodeDdisk_Disk_Write_n0 outdisk_Disk_Write_n0)
theorem Gdisk_Disk_Write_n0_ok : CSum Try.prog 64 Ldisk_Disk_Write_n0 Gdisk_Disk_Write_n0 := GNdisk_Disk_Write_n0_ok
noncomputable def anndisk_Disk_Write : Ann := (.seq .none (.seq .none (.seq (.seq (.cut 5 [0, 1, 2, 7, 8] Gdisk_Disk_Write_n0) .none) (.seq (.block (.seq .none (.cond (.seq (.seq .none (.cut 5 [7, 27] Gdisk_Disk_Write_n1)) .none) (.seq .none (.cond (.seq (.seq .none (.cut 5 [7, 34] Gdisk_Disk_Write_n2)) .none) .none))))) (.seq (.seq .none (.cut 5 [0, 1, 2, 7, 40] Gdisk_Disk_Write_n3)) .none)))))
theorem anndisk_Disk_Write_ok : AnnOk Try.prog 64 bdisk_Disk_Write anndisk_Disk_Write := ⟨(annOk_none _ _ _), ⟨(annOk_none _ _ _), ⟨⟨Gdisk_Disk_Write_n0_ok, (annOk_none _ _ _)⟩, ⟨⟨(annOk_none _ _ _), ⟨⟨⟨(annOk_none _ _ _), Gdisk_Disk_Write_n1_ok⟩, (annOk_none _ _ _)⟩, ⟨(annOk_none _ _ _), ⟨⟨⟨(annOk_none _ _ _), Gdisk_Disk_Write_n2_ok⟩, (annOk_none _ _ _)⟩, (annOk_none _ _ _)⟩⟩⟩⟩, ⟨⟨(annOk_none _ _ _), Gdisk_Disk_Write_n3_ok⟩, (annOk_none _ _ _)⟩⟩⟩⟩⟩
abbrev Adisk_Disk_Write := (Int) × (List UInt8) × (Int) × (Int) × (Bool) × (List (List UInt8)) × (List (Int × List UInt8)) × (List (Int × List UInt8)) × (List Int)
abbrev Ydisk_Disk_Write := (Int) × (Int) × (Bool) × (List (Int × List UInt8)) × (List (Int × List UInt8))
def fndisk_Disk_Write {β : Type} : Adisk_Disk_Write → (Ydisk_Disk_Write → Option β) → Option β := fun (a1, a2, o0_3, o0_5, o0_6, o1, o2, o3, o4) exit => (bindO (fnDdisk_Disk_call (o0_3, o0_5, o0_6, o1, o2, o3, o4)) (unP fun r_0 => unP fun r_1 => unP fun o0_3_2 o0_6_2 => (bindO (nodeDdisk_Disk_Write_n0 (a1, a2, r_0, r_1, o0_3_2, o0_5, o0_6_2, o1, o2, o3, o4)) fun t19 => (bif t19 then (exit (r_0, o0_3_2, o0_6_2, o2, o3)) else (bindO (fnDdisk_Disk_there (a1, o0_3_2, o0_5, o0_6_2, o1, o2, o3, o4)) fun r => (bif !r then (bindO (nodeDdisk_Disk_Write_n1 (r_0, !r_1, o0_3_2, o0_5, o0_6_2, o1, o2, o3, o4)) fun t7 => (exit (t7, o0_3_2, o0_6_2, o2, o3))) else (bif (↑(List.length a2) : Int) != (64 : Int) then (bindO (nodeDdisk_Disk_Write_n2 (r_0, !r_1, o0_3_2, o0_5, o0_6_2, o1, o2, o3, o4)) fun t7 => (exit (t7, o0_3_2, o0_6_2, o2, o3))) else (bindO (nodeDdisk_Disk_Write_n3 (a1, a2, r_0, o0_3_2, o0_5, o0_6_2, o1, o2, o3, o4)) fun _ => (bif Nat.ble ((List.length o3 + List.length [(a1, a2)]) * (24 : Nat)) (140737488355328 : Nat) then (exit (r_0, o0_3_2, o0_6_2, mput a1 a2 o2, o3 ++ [(a1, a2)])) else none)))))))))
def fnDdisk_Disk_Write (a : Adisk_Disk_Write) : Option Ydisk_Disk_Write := fndisk_Disk_Write a some
theorem fndisk_Disk_Write_nat (a : Adisk_Disk_Write) (k : Ydisk_Disk_Write → Ans) : fndisk_Disk_Write a k = bindO (fnDdisk_Disk_Write a) k := by
  obtain ⟨a1, a2, o0_3, o0_5, o0_6, o1, o2, o3, o4⟩ := a
  simp only [fnDdisk_Disk_Write, fndisk_Disk_Write, bindO_cond, bindO_assoc, bindO_none, bindO_pure, bindO_elim, bindO_unP]
def argsdisk_Disk_Write : Adisk_Disk_Write → List AV × List AE.Obj := fun (a1, a2, o0_3, o0_5, o0_6, o1, o2, o3, o4) => ([AV.ptr 0 0, AV.int IntKind.i64 a1, AV.str a2], [AE.Obj.cells [AV.own 1, AV.map 2, AV.own 3, AV.int IntKind.i64 o0_3, AV.own 4, AV.int IntKind.i64 o0_5, AV.bool o0_6], Obj.arr Ty.str o1, Obj.mp IntKind.i64 Ty.str o2, Obj.arr (Ty.st (Ty.pair (Ty.int IntKind.i64) Ty.str)) o3, Obj.arr (Ty.int IntKind.i64) o4])
def decAdisk_Disk_Write (l : List AV) (H : List AE.Obj) : Option Adisk_Disk_Write := match l, H with
  | [AV.ptr 0 0, AV.int IntKind.i64 a1, AV.str a2], [AE.Obj.cells [AV.own 1, AV.map 2, AV.own 3, AV.int IntKind.i64 o0_3, AV.own 4, AV.int IntKind.i64 o0_5, AV.bool o0_6], Obj.arr Ty.str o1, Obj.mp IntKind.i64 Ty.str o2, Obj.arr (Ty.st (Ty.pair (Ty.int IntKind.i64) Ty.str)) o3, Obj.arr (Ty.int IntKind.i64) o4] => some (a1, a2, o0_3, o0_5, o0_6, o1, o2, o3, o4)
  | _, _ => none
theorem decAdisk_Disk_Write_ok (l : List AV) (H : List AE.Obj) (a : Adisk_Disk_Write) (h : decAdisk_Disk_Write l H = some a) : (l, H) = argsdisk_Disk_Write a := by
  unfold decAdisk_Disk_Write at h
  split at h
  · cases h; rfl
  · cases h
def outdisk_Disk_Write : Adisk_Disk_Write → (AV → List AE.Obj → Ans) → Ydisk_Disk_Write → Ans := fun (a1, a2, o0_3, o0_5, o0_6, o1, o2, o3, o4) K => unP fun r_y => unP fun o0_3_y => unP fun o0_6_y => unP fun o2_y o3_y => K (AV.int IntKind.i64 r_y) [AE.Obj.cells [AV.own 1, AV.map 2, AV.own 3, AV.int IntKind.i64 o0_3_y, AV.own 4, AV.int IntKind.i64 o0_5, AV.bool o0_6_y], Obj.arr Ty.str o1, Obj.mp IntKind.i64 Ty.str o2_y, Obj.arr (Ty.st (Ty.pair (Ty.int IntKind.i64) Ty.str)) o3_y, Obj.arr (Ty.int IntKind.i64) o4]
theorem fndisk_Disk_Write_ok (a : Adisk_Disk_Write) (K : AV → List AE.Obj → Ans) : fnE Try.tab envdisk_Disk_Write noHint 0 70 13 Try.f13.ntmps Try.f13.results.toList anndisk_Disk_Write bdisk_Disk_Write (argsdisk_Disk_Write a).1 (argsdisk_Disk_Write a).2 K = fndisk_Disk_Write a (outdisk_Disk_Write a K) := by kernel_rfl
def vFdisk_Disk_Write (a : Adisk_Disk_Write) (K : AV → List AE.Obj → Ans) : Ans := bindO (fnDdisk_Disk_Write a) fun y => outdisk_Disk_Write a K y
def Fdisk_Disk_Write : List AV → List AE.Obj → (AV → List AE.Obj → Ans) → Ans := fun l H K => bindO (decAdisk_Disk_Write l H) fun a => vFdisk_Disk_Write a K
theorem Fdisk_Disk_Write_ok : FuncOk Try.prog 13 Fdisk_Disk_Write := func_mkD (hint := noHint) (d := 0) (n := 70) mixed tabOk envdisk_Disk_WriteOk Try.func13 (bodySome (by kernel_rfl)) (by decide +kernel) anndisk_Disk_Write_ok decAdisk_Disk_Write_ok fndisk_Disk_Write_ok fndisk_Disk_Write_nat
--@ disk_Disk_settle
noncomputable def envdisk_Disk_settle : Env := []
theorem envdisk_Disk_settleOk : EnvOk Try.prog envdisk_Disk_settle := EnvOk.nil
noncomputable def bdisk_Disk_settle : Code := Try.f61.body.getD .skip
noncomputable def Ldisk_Disk_settle_n0 : Code := codeAt [0, 1, 0, 0] bdisk_Disk_settle
noncomputable def annLdisk_Disk_settle_n0 : Ann := .at 4 [0, 6, 7, 8] (.loop .none)
theorem annLdisk_Disk_settle_n0_ok : AnnOk Try.prog 29 (.loop Ldisk_Disk_settle_n0) annLdisk_Disk_settle_n0 := annOk_at (annOk_none _ _ _)
abbrev Idisk_Disk_settle_n0 := (List (Int × List UInt8)) × (Int) × (List (Int × List UInt8)) × (Int) × (Int) × (Bool) × (List (Int × List UInt8)) × (List Int)
abbrev Ydisk_Disk_settle_n0 := (List (List UInt8))
abbrev Vdisk_Disk_settle_n0 := (Int) × (List (List UInt8))
def Sdisk_Disk_settle_n0 : Idisk_Disk_settle_n0 → Vdisk_Disk_settle_n0 → St := fun (t6, t7, o0_2, o0_3, o0_5, o0_6, o2, o3) (t8, o1) => { env := [(0, AV.ptr 0 0), (6, AV.ro (Ty.st (Ty.pair (Ty.int IntKind.i64) Ty.str)) t6), (7, AV.int IntKind.i64 t7), (8, AV.int IntKind.i64 t8)], stk := [[(0, AV.ptr 0 0)]], H := [AE.Obj.cells [AV.own 1, AV.map 2, AV.ro (Ty.st (Ty.pair (Ty.int IntKind.i64) Ty.str)) o0_2, AV.int IntKind.i64 o0_3, AV.own 3, AV.int IntKind.i64 o0_5, AV.bool o0_6], Obj.arr Ty.str o1, Obj.mp IntKind.i64 Ty.str o2, Obj.arr (Ty.int IntKind.i64) o3], blk := 249856 }
def decdisk_Disk_settle_n0 (s : St) : Option (Idisk_Disk_settle_n0 × Vdisk_Disk_settle_n0) := match s with
  | { env := [(0, AV.ptr 0 0), (6, AV.ro (Ty.st (Ty.pair (Ty.int IntKind.i64) Ty.str)) t6), (7, AV.int IntKind.i64 t7), (8, AV.int IntKind.i64 t8)], stk := [[(0, AV.ptr 0 0)]], H := [AE.Obj.cells [AV.own 1, AV.map 2, AV.ro (Ty.st (Ty.pair (Ty.int IntKind.i64) Ty.str)) o0_2, AV.int IntKind.i64 o0_3, AV.own 3, AV.int IntKind.i64 o0_5, AV.bool o0_6], Obj.arr Ty.str o1, Obj.mp IntKind.i64 Ty.str o2, Obj.arr (Ty.int IntKind.i64) o3], blk := 249856 } => some ((t6, t7, o0_2, o0_3, o0_5, o0_6, o2, o3), (t8, o1))
  | _ => none
theorem decdisk_Disk_settle_n0_ok (s : St) (x : Idisk_Disk_settle_n0 × Vdisk_Disk_settle_n0) (h : decdisk_Disk_settle_n0 s = some x) : s = Sdisk_Disk_settle_n0 x.1 x.2 := by
  unfold decdisk_Disk_settle_n0 at h
  split at h
  · cases h; rfl
  · cases h
def outdisk_Disk_settle_n0 : Idisk_Disk_settle_n0 → (Ex → St → Ans) → Ydisk_Disk_settle_n0 → Ans := fun (t6, t7, o0_2, o0_3, o0_5, o0_6, o2, o3) K => fun o1_y => K (Ex.exit 0) { env := [(0, AV.ptr 0 0)], stk := [[(0, AV.ptr 0 0)]], H := [AE.Obj.cells [AV.own 1, AV.map 2, AV.ro (Ty.st (Ty.pair (Ty.int IntKind.i64) Ty.str)) o0_2, AV.int IntKind.i64 o0_3, AV.own 3, AV.int IntKind.i64 o0_5, AV.bool o0_6], Obj.arr Ty.str o1_y, Obj.mp IntKind.i64 Ty.str o2, Obj.arr (Ty.int IntKind.i64) o3], blk := 249856 }
def stepdisk_Disk_settle_n0 {β : Type} : Idisk_Disk_settle_n0 → Vdisk_Disk_settle_n0 → (Vdisk_Disk_settle_n0 → Option β) → (Ydisk_Disk_settle_n0 → Option β) → Option β := fun (t6, t7, o0_2, o0_3, o0_5, o0_6, o2, o3) (t8, o1) next exit => (bif decide (t8 < t7) then (bindO (nth t6 t8) fun x => (bif inR x.fst (List.length o1) then (bindO (o1[Int.toNat x.fst]?) fun x_2 => (next (IntKind.wrap IntKind.i64 (t8 + (1 : Int)), List.set o1 (Int.toNat x.fst) x.snd))) else none)) else (exit (o1)))
def stepDdisk_Disk_settle_n0 (i : Idisk_Disk_settle_n0) (v : Vdisk_Disk_settle_n0) : Option (Vdisk_Disk_settle_n0 ⊕ Ydisk_Disk_settle_n0) := stepdisk_Disk_settle_n0 i v (fun v => some (.inl v)) (fun y => some (.inr y))
theorem stepdisk_Disk_settle_n0_nat (i : Idisk_Disk_settle_n0) (v : Vdisk_Disk_settle_n0) (next : Vdisk_Disk_settle_n0 → Ans) (exit : Ydisk_Disk_settle_n0 → Ans) : stepdisk_Disk_settle_n0 i v next exit = bindO (stepDdisk_Disk_settle_n0 i v) (Sum.elim next exit) := by
  obtain ⟨t6, t7, o0_2, o0_3, o0_5, o0_6, o2, o3⟩ := i
  obtain ⟨t8, o1⟩ := v
  simp only [stepDdisk_Disk_settle_n0, stepdisk_Disk_settle_n0, bindO_cond, bindO_assoc, bindO_none, bindO_pure, bindO_elim, bindO_unP, Sum.elim_inl, Sum.elim_inr]
theorem stepdisk_Disk_settle_n0_ok (n : Nat) (i : Idisk_Disk_settle_n0) (v : Vdisk_Disk_settle_n0) (K : Ex → St → Ans) : codeI Try.tab envdisk_Disk_settle noHint (codeD Try.tab envdisk_Disk_settle noHint 0 64) (n+1) 29 annLdisk_Disk_settle_n0 (.loop Ldisk_Disk_settle_n0) (weakP 4 (exk [0] [] [(0, [0])]) K) (Sdisk_Disk_settle_n0 i v) = stepdisk_Disk_settle_n0 i v (fun v' => codeI Try.tab envdisk_Disk_settle noHint (codeD Try.tab envdisk_Disk_settle noHint 0 64) n 29 annLdisk_Disk_settle_n0 (.loop Ldisk_Disk_settle_n0) (weakP 4 (exk [0] [] [(0, [0])]) K) (Sdisk_Disk_settle_n0 i v')) (fun y => outdisk_Disk_settle_n0 i K y) := by kernel_rfl
theorem GNdisk_Disk_settle_n0_ok : CSum Try.prog 29 (.loop Ldisk_Disk_settle_n0) (sumL decdisk_Disk_settle_n0 stepDdisk_Disk_settle_n0 outdisk_Disk_settle_n0) := csum_loop mixed tabOk envdisk_Disk_settleOk 4 (exk [0] [] [(0, [0])]) annLdisk_Disk_settle_n0_ok decdisk_Disk_settle_n0_ok stepdisk_Disk_settle_n0_ok stepdisk_Disk_settle_n0_nat
noncomputable def Gdisk_Disk_settle_n0 : (Ex → St → Ans) → St → Ans := (sumL decdisk_Disk_settle_n0 stepDdisk_Disk_settle_n0 outdisk_Disk_settle_n0)
theorem Gdisk_Disk_settle_n0_ok : CSum Try.prog 29 (.loop Ldisk_Disk_settle_n0) Gdisk_Disk_settle_n0 := GNdisk_Disk_settle_n0_ok
noncomputable def anndisk_Disk_settle : Ann := (.seq (.seq .none (.block (.cut 4 [0, 6, 7, 8] Gdisk_Disk_settle_n0))) .none)
theorem anndisk_Disk_settle_ok : AnnOk Try.prog 29 bdisk_Disk_settle anndisk_Disk_settle := ⟨⟨(annOk_none _ _ _), Gdisk_Disk_settle_n0_ok⟩, (annOk_none _ _ _)⟩
abbrev Adisk_Disk_settle := (List (Int × List UInt8)) × (List (Int × List UInt8)) × (Int) × (Int) × (Bool) × (List (List UInt8)) × (List (Int × List UInt8)) × (List Int)
abbrev Ydisk_Disk_settle := (List (List UInt8))
def fndisk_Disk_settle {β : Type} : Adisk_Disk_settle → (Ydisk_Disk_settle → Option β) → Option β := fun (a1, o0_2, o0_3, o0_5, o0_6, o1, o2, o3) exit => (bindO (loopD (stepDdisk_Disk_settle_n0 (a1, (↑(List.length a1) : Int), o0_2, o0_3, o0_5, o0_6, o2, o3)) FUEL ((0 : Int), o1)) fun o1_2 => (exit (o1_2)))
def fnDdisk_Disk_settle (a : Adisk_Disk_settle) : Option Ydisk_Disk_settle := fndisk_Disk_settle a some
theorem fndisk_Disk_settle_nat (a : Adisk_Disk_settle) (k : Ydisk_Disk_settle → Ans) : fndisk_Disk_settle a k = bindO (fnDdisk_Disk_settle a) k := by
  obtain ⟨a1, o0_2, o0_3, o0_5, o0_6, o1, o2, o3⟩ := a
  simp only [fnDdisk_Disk_settle, fndisk_Disk_settle, bindO_cond, bindO_assoc, bindO_none, bindO_pure, bindO_elim, bindO_unP]
def argsdisk_Disk_settle : Adisk_Disk_settle → List AV × List AE.Obj := fun (a1, o0_2, o0_3, o0_5, o0_6, o1, o2, o3) => ([AV.ptr 0 0, AV.ro (Ty.st (Ty.pair (Ty.int IntKind.i64) Ty.str)) a1], [AE.Obj.cells [AV.own 1, AV.map 2, AV.ro (Ty.st (Ty.pair (Ty.int IntKind.i64) Ty.str)) o0_2, AV.int IntKind.i64 o0_3, AV.own 3, AV.int IntKind.i64 o0_5, AV.bool o0_6], Obj.arr Ty.str o1, Obj.mp IntKind.i64 Ty.str o2, Obj.arr (Ty.int IntKind.i64) o3])
def decAdisk_Disk_settle (l : List AV) (H : List AE.Obj) : Option Adisk_Disk_settle := match l, H with
  | [AV.ptr 0 0, AV.ro (Ty.st (Ty.pair (Ty.int IntKind.i64) Ty.str)) a1], [AE.Obj.cells [AV.own 1, AV.map 2, AV.ro (Ty.st (Ty.pair (Ty.int IntKind.i64) Ty.str)) o0_2, AV.int IntKind.i64 o0_3, AV.own 3, AV.int IntKind.i64 o0_5, AV.bool o0_6], Obj.arr Ty.str o1, Obj.mp IntKind.i64 Ty.str o2, Obj.arr (Ty.int IntKind.i64) o3] => some (a1, o0_2, o0_3, o0_5, o0_6, o1, o2, o3)
  | _, _ => none
theorem decAdisk_Disk_settle_ok (l : List AV) (H : List AE.Obj) (a : Adisk_Disk_settle) (h : decAdisk_Disk_settle l H = some a) : (l, H) = argsdisk_Disk_settle a := by
  unfold decAdisk_Disk_settle at h
  split at h
  · cases h; rfl
  · cases h
def outdisk_Disk_settle : Adisk_Disk_settle → (AV → List AE.Obj → Ans) → Ydisk_Disk_settle → Ans := fun (a1, o0_2, o0_3, o0_5, o0_6, o1, o2, o3) K => fun o1_y => K (AV.tup []) [AE.Obj.cells [AV.own 1, AV.map 2, AV.own 4, AV.int IntKind.i64 o0_3, AV.own 3, AV.int IntKind.i64 o0_5, AV.bool o0_6], Obj.arr Ty.str o1_y, Obj.mp IntKind.i64 Ty.str ([]), Obj.arr (Ty.int IntKind.i64) o3, Obj.arr (Ty.st (Ty.pair (Ty.int IntKind.i64) Ty.str)) ([])]
theorem fndisk_Disk_settle_ok (a : Adisk_Disk_settle) (K : AV → List AE.Obj → Ans) : fnE Try.tab envdisk_Disk_settle noHint 0 70 61 Try.f61.ntmps Try.f61.results.toList anndisk_Disk_settle bdisk_Disk_settle (argsdisk_Disk_settle a).1 (argsdisk_Disk_settle a).2 K = fndisk_Disk_settle a (outdisk_Disk_settle a K) := by kernel_rfl
def vFdisk_Disk_settle (a : Adisk_Disk_settle) (K : AV → List AE.Obj → Ans) : Ans := bindO (fnDdisk_Disk_settle a) fun y => outdisk_Disk_settle a K y
def Fdisk_Disk_settle : List AV → List AE.Obj → (AV → List AE.Obj → Ans) → Ans := fun l H K => bindO (decAdisk_Disk_settle l H) fun a => vFdisk_Disk_settle a K
theorem Fdisk_Disk_settle_ok : FuncOk Try.prog 61 Fdisk_Disk_settle := func_mkD (hint := noHint) (d := 0) (n := 70) mixed tabOk envdisk_Disk_settleOk Try.func61 (bodySome (by kernel_rfl)) (by decide +kernel) anndisk_Disk_settle_ok decAdisk_Disk_settle_ok fndisk_Disk_settle_ok fndisk_Disk_settle_nat
--@ disk_Disk_Flush
noncomputable def envdisk_Disk_Flush : Env := [(59, .func Fdisk_Disk_call), (61, .func Fdisk_Disk_settle)]
theorem envdisk_Disk_FlushOk : EnvOk Try.prog envdisk_Disk_Flush := EnvOk.cons Fdisk_Disk_call_ok (EnvOk.cons Fdisk_Disk_settle_ok (EnvOk.nil))
noncomputable def bdisk_Disk_Flush : Code := Try.f14.body.getD .skip
noncomputable def Ldisk_Disk_Flush_n0 : Code := codeAt [1, 1, 0, 1] bdisk_Disk_Flush
noncomputable def annLdisk_Disk_Flush_n0 : Ann := .none
theorem annLdisk_Disk_Flush_n0_ok : AnnOk Try.prog 19 Ldisk_Disk_Flush_n0 annLdisk_Disk_Flush_n0 := (annOk_none _ _ _)
abbrev Idisk_Disk_Flush_n0 := (Int) × (Bool) × (Int) × (Int) × (Bool) × (List (List UInt8)) × (List (Int × List UInt8)) × (List (Int × List UInt8)) × (List Int)
abbrev Ydisk_Disk_Flush_n0 := ((List (List UInt8))) ⊕ (Unit)
def Sdisk_Disk_Flush_n0 : Idisk_Disk_Flush_n0 → St := fun (t3, t11, o0_3, o0_5, o0_6, o1, o2, o3, o4) => { env := [(0, AV.ptr 0 0), (3, AV.int IntKind.i64 t3), (11, AV.bool t11)], stk := [[(0, AV.ptr 0 0)]], H := [AE.Obj.cells [AV.own 1, AV.map 2, AV.own 3, AV.int IntKind.i64 o0_3, AV.own 4, AV.int IntKind.i64 o0_5, AV.bool o0_6], Obj.arr Ty.str o1, Obj.mp IntKind.i64 Ty.str o2, Obj.arr (Ty.st (Ty.pair (Ty.int IntKind.i64) Ty.str)) o3, Obj.arr (Ty.int IntKind.i64) o4], blk := 57344 }
def decdisk_Disk_Flush_n0 (s : St) : Option Idisk_Disk_Flush_n0 := match s with
  | { env := [(0, AV.ptr 0 0), (3, AV.int IntKind.i64 t3), (11, AV.bool t11)], stk := [[(0, AV.ptr 0 0)]], H := [AE.Obj.cells [AV.own 1, AV.map 2, AV.own 3, AV.int IntKind.i64 o0_3, AV.own 4, AV.int IntKind.i64 o0_5, AV.bool o0_6], Obj.arr Ty.str o1, Obj.mp IntKind.i64 Ty.str o2, Obj.arr (Ty.st (Ty.pair (Ty.int IntKind.i64) Ty.str)) o3, Obj.arr (Ty.int IntKind.i64) o4], blk := 57344 } => some (t3, t11, o0_3, o0_5, o0_6, o1, o2, o3, o4)
  | _ => none
theorem decdisk_Disk_Flush_n0_ok (s : St) (x : Idisk_Disk_Flush_n0) (h : decdisk_Disk_Flush_n0 s = some x) : s = Sdisk_Disk_Flush_n0 x := by
  unfold decdisk_Disk_Flush_n0 at h
  split at h
  · cases h; rfl
  · cases h
def outdisk_Disk_Flush_n0 : Idisk_Disk_Flush_n0 → (Ex → St → Ans) → Ydisk_Disk_Flush_n0 → Ans := fun (t3, t11, o0_3, o0_5, o0_6, o1, o2, o3, o4) K => (Sum.elim (fun o1_y => K (Ex.norm) { env := [(3, AV.int IntKind.i64 t3)], stk := [[(0, AV.ptr 0 0)]], H := [AE.Obj.cells [AV.own 1, AV.map 2, AV.own 5, AV.int IntKind.i64 o0_3, AV.own 4, AV.int IntKind.i64 o0_5, AV.bool o0_6], Obj.arr Ty.str o1_y, Obj.mp IntKind.i64 Ty.str ([]), Obj.dead, Obj.arr (Ty.int IntKind.i64) o4, Obj.arr (Ty.st (Ty.pair (Ty.int IntKind.i64) Ty.str)) ([])], blk := 57344 }) (fun _ => K (Ex.norm) { env := [(3, AV.int IntKind.i64 t3)], stk := [[(0, AV.ptr 0 0)]], H := [AE.Obj.cells [AV.own 1, AV.map 2, AV.own 3, AV.int IntKind.i64 o0_3, AV.own 4, AV.int IntKind.i64 o0_5, AV.bool o0_6], Obj.arr Ty.str o1, Obj.mp IntKind.i64 Ty.str o2, Obj.arr (Ty.st (Ty.pair (Ty.int IntKind.i64) Ty.str)) o3, Obj.arr (Ty.int IntKind.i64) o4], blk := 57344 }))
def nodedisk_Disk_Flush_n0 {β : Type} : Idisk_Disk_Flush_n0 → (Ydisk_Disk_Flush_n0 → Option β) → Option β := fun (t3, t11, o0_3, o0_5, o0_6, o1, o2, o3, o4) exit => (bif t11 then (bindO (fnDdisk_Disk_settle (o3, o3, o0_3, o0_5, o0_6, o1, o2, o4)) fun o1_2 => (exit (Sum.inl (o1_2)))) else (exit (Sum.inr ())))
def nodeDdisk_Disk_Flush_n0 (i : Idisk_Disk_Flush_n0) : Option Ydisk_Disk_Flush_n0 := nodedisk_Disk_Flush_n0 i some
theorem nodedisk_Disk_Flush_n0_nat (i : Idisk_Disk_Flush_n0) (k : Ydisk_Disk_Flush_n0 → Ans) : nodedisk_Disk_Flush_n0 i k = bindO (nodeDdisk_Disk_Flush_n0 i) k := by
  obtain ⟨t3, t11, o0_3, o0_5, o0_6, o1, o2, o3, o4⟩ := i
  simp only [nodeDdisk_Disk_Flush_n0, nodedisk_Disk_Flush_n0, bindO_cond, bindO_assoc, bindO_none, bindO_pure, bindO_elim, bindO_unP]
theorem nodedisk_Disk_Flush_n0_ok (i : Idisk_Disk_Flush_n0) (K : Ex → St → Ans) : codeI Try.tab envdisk_Disk_Flush noHint (codeD Try.tab envdisk_Disk_Flush noHint 0 64) 70 19 annLdisk_Disk_Flush_n0 Ldisk_Disk_Flush_n0 (weakP 5 (exk [3] [2] []) K) (Sdisk_Disk_Flush_n0 i) = nodedisk_Disk_Flush_n0 i (outdisk_Disk_Flush_n0 i K) := by kernel_rfl
theorem GNdisk_Disk_Flush_n0_ok : CSum Try.prog 19 Ldisk_Disk_Flush_n0 (sumN decdisk_Disk_Flush_n0 nodeDdisk_Disk_Flush_n0 outdisk_Disk_Flush_n0) := csum_node mixed tabOk envdisk_Disk_FlushOk 5 (exk [3] [2] []) annLdisk_Disk_Flush_n0_ok decdisk_Disk_Flush_n0_ok nodedisk_Disk_Flush_n0_ok nodedisk_Disk_Flush_n0_nat
noncomputable def Gdisk_Disk_Flush_n0 : (Ex → St → Ans) → St → Ans := (sumN decdisk_Disk_Flush_n0 nodeDdisk_Disk_Flush_n0 outdisk_Disk_Flush_n0)
theorem Gdisk_Disk_Flush_n0_ok : CSum Try.prog 19 Ldisk_Disk_Flush_n0 Gdisk_Disk_Flush_n0 := GNdisk_Disk_Flush_n0_ok
noncomputable def anndisk_Disk_Flush : Ann := (.seq .none (.seq .none (.seq (.seq .none (.cut 5 [0, 3, 11] Gdisk_Disk_Flush_n0)) .none)))
theorem anndisk_Disk_Flush_ok : AnnOk Try.prog 19 bdisk_Disk_Flush anndisk_Disk_Flush := ⟨(annOk_none _ _ _), ⟨(annOk_none _ _ _), ⟨⟨(annOk_none _ _ _), Gdisk_Disk_Flush_n0_ok⟩, (annOk_none _ _ _)⟩⟩⟩
abbrev Adisk_Disk_Flush := (Int) × (Int) × (Bool) × (List (List UInt8)) × (List (Int × List UInt8)) × (List (Int × List UInt8)) × (List Int)
abbrev Ydisk_Disk_Flush := ((Int) × (Int) × (Bool) × (List (List UInt8))) ⊕ ((Int) × (Int) × (Bool))
def fndisk_Disk_Flush {β : Type} : Adisk_Disk_Flush → (Ydisk_Disk_Flush → Option β) → Option β := fun (o0_3, o0_5, o0_6, o1, o2, o3, o4) exit => (bindO (fnDdisk_Disk_call (o0_3, o0_5, o0_6, o1, o2, o3, o4)) (unP fun r_0 => unP fun r_1 => unP fun o0_3_2 o0_6_2 => (bindO (nodeDdisk_Disk_Flush_n0 (r_0, r_0 == (0 : Int), o0_3_2, o0_5, o0_6_2, o1, o2, o3, o4)) (Sum.elim (fun o1_2 => (exit (Sum.inl (r_0, o0_3_2, o0_6_2, o1_2)))) (fun _ => (exit (Sum.inr (r_0, o0_3_2, o0_6_2))))))))
def fnDdisk_Disk_Flush (a : Adisk_Disk_Flush) : Option Ydisk_Disk_Flush := fndisk_Disk_Flush a some
theorem fndisk_Disk_Flush_nat (a : Adisk_Disk_Flush) (k : Ydisk_Disk_Flush → Ans) : fndisk_Disk_Flush a k = bindO (fnDdisk_Disk_Flush a) k := by
  obtain ⟨o0_3, o0_5, o0_6, o1, o2, o3, o4⟩ := a
  simp only [fnDdisk_Disk_Flush, fndisk_Disk_Flush, bindO_cond, bindO_assoc, bindO_none, bindO_pure, bindO_elim, bindO_unP]
def argsdisk_Disk_Flush : Adisk_Disk_Flush → List AV × List AE.Obj := fun (o0_3, o0_5, o0_6, o1, o2, o3, o4) => ([AV.ptr 0 0], [AE.Obj.cells [AV.own 1, AV.map 2, AV.own 3, AV.int IntKind.i64 o0_3, AV.own 4, AV.int IntKind.i64 o0_5, AV.bool o0_6], Obj.arr Ty.str o1, Obj.mp IntKind.i64 Ty.str o2, Obj.arr (Ty.st (Ty.pair (Ty.int IntKind.i64) Ty.str)) o3, Obj.arr (Ty.int IntKind.i64) o4])
def decAdisk_Disk_Flush (l : List AV) (H : List AE.Obj) : Option Adisk_Disk_Flush := match l, H with
  | [AV.ptr 0 0], [AE.Obj.cells [AV.own 1, AV.map 2, AV.own 3, AV.int IntKind.i64 o0_3, AV.own 4, AV.int IntKind.i64 o0_5, AV.bool o0_6], Obj.arr Ty.str o1, Obj.mp IntKind.i64 Ty.str o2, Obj.arr (Ty.st (Ty.pair (Ty.int IntKind.i64) Ty.str)) o3, Obj.arr (Ty.int IntKind.i64) o4] => some (o0_3, o0_5, o0_6, o1, o2, o3, o4)
  | _, _ => none
theorem decAdisk_Disk_Flush_ok (l : List AV) (H : List AE.Obj) (a : Adisk_Disk_Flush) (h : decAdisk_Disk_Flush l H = some a) : (l, H) = argsdisk_Disk_Flush a := by
  unfold decAdisk_Disk_Flush at h
  split at h
  · cases h; rfl
  · cases h
def outdisk_Disk_Flush : Adisk_Disk_Flush → (AV → List AE.Obj → Ans) → Ydisk_Disk_Flush → Ans := fun (o0_3, o0_5, o0_6, o1, o2, o3, o4) K => (Sum.elim (unP fun r_y => unP fun o0_3_y => unP fun o0_6_y o1_y => K (AV.int IntKind.i64 r_y) [AE.Obj.cells [AV.own 1, AV.map 2, AV.own 5, AV.int IntKind.i64 o0_3_y, AV.own 4, AV.int IntKind.i64 o0_5, AV.bool o0_6_y], Obj.arr Ty.str o1_y, Obj.mp IntKind.i64 Ty.str ([]), Obj.dead, Obj.arr (Ty.int IntKind.i64) o4, Obj.arr (Ty.st (Ty.pair (Ty.int IntKind.i64) Ty.str)) ([])]) (unP fun r_y => unP fun o0_3_y o0_6_y => K (AV.int IntKind.i64 r_y) [AE.Obj.cells [AV.own 1, AV.map 2, AV.own 3, AV.int IntKind.i64 o0_3_y, AV.own 4, AV.int IntKind.i64 o0_5, AV.bool o0_6_y], Obj.arr Ty.str o1, Obj.mp IntKind.i64 Ty.str o2, Obj.arr (Ty.st (Ty.pair (Ty.int IntKind.i64) Ty.str)) o3, Obj.arr (Ty.int IntKind.i64) o4]))
theorem fndisk_Disk_Flush_ok (a : Adisk_Disk_Flush) (K : AV → List AE.Obj → Ans) : fnE Try.tab envdisk_Disk_Flush noHint 0 70 14 Try.f14.ntmps Try.f14.results.toList anndisk_Disk_Flush bdisk_Disk_Flush (argsdisk_Disk_Flush a).1 (argsdisk_Disk_Flush a).2 K = fndisk_Disk_Flush a (outdisk_Disk_Flush a K) := by kernel_rfl
def vFdisk_Disk_Flush (a : Adisk_Disk_Flush) (K : AV → List AE.Obj → Ans) : Ans := bindO (fnDdisk_Disk_Flush a) fun y => outdisk_Disk_Flush a K y
def Fdisk_Disk_Flush : List AV → List AE.Obj → (AV → List AE.Obj → Ans) → Ans := fun l H K => bindO (decAdisk_Disk_Flush l H) fun a => vFdisk_Disk_Flush a K
theorem Fdisk_Disk_Flush_ok : FuncOk Try.prog 14 Fdisk_Disk_Flush := func_mkD (hint := noHint) (d := 0) (n := 70) mixed tabOk envdisk_Disk_FlushOk Try.func14 (bodySome (by kernel_rfl)) (by decide +kernel) anndisk_Disk_Flush_ok decAdisk_Disk_Flush_ok fndisk_Disk_Flush_ok fndisk_Disk_Flush_nat
--@ disk_Disk_settle_2
noncomputable def envdisk_Disk_settle_2 : Env := []
theorem envdisk_Disk_settle_2Ok : EnvOk Try.prog envdisk_Disk_settle_2 := EnvOk.nil
noncomputable def bdisk_Disk_settle_2 : Code := Try.f61.body.getD .skip
noncomputable def Ldisk_Disk_settle_2_n0 : Code := codeAt [0, 1, 0, 0] bdisk_Disk_settle_2
noncomputable def annLdisk_Disk_settle_2_n0 : Ann := .at 5 [0, 6, 7, 8] (.loop .none)
theorem annLdisk_Disk_settle_2_n0_ok : AnnOk Try.prog 29 (.loop Ldisk_Disk_settle_2_n0) annLdisk_Disk_settle_2_n0 := annOk_at (annOk_none _ _ _)
abbrev Idisk_Disk_settle_2_n0 := (List (Int × List UInt8)) × (Int) × (Int) × (Int) × (Bool) × (List (Int × List UInt8)) × (List (Int × List UInt8)) × (List Int)
abbrev Ydisk_Disk_settle_2_n0 := (List (List UInt8))
abbrev Vdisk_Disk_settle_2_n0 := (Int) × (List (List UInt8))
def Sdisk_Disk_settle_2_n0 : Idisk_Disk_settle_2_n0 → Vdisk_Disk_settle_2_n0 → St := fun (t6, t7, o0_3, o0_5, o0_6, o2, o3, o4) (t8, o1) => { env := [(0, AV.ptr 0 0), (6, AV.ro (Ty.st (Ty.pair (Ty.int IntKind.i64) Ty.str)) t6), (7, AV.int IntKind.i64 t7), (8, AV.int IntKind.i64 t8)], stk := [[(0, AV.ptr 0 0)]], H := [AE.Obj.cells [AV.own 1, AV.map 2, AV.own 3, AV.int IntKind.i64 o0_3, AV.own 4, AV.int IntKind.i64 o0_5, AV.bool o0_6], Obj.arr Ty.str o1, Obj.mp IntKind.i64 Ty.str o2, Obj.arr (Ty.st (Ty.pair (Ty.int IntKind.i64) Ty.str)) o3, Obj.arr (Ty.int IntKind.i64) o4], blk := 249856 }
def decdisk_Disk_settle_2_n0 (s : St) : Option (Idisk_Disk_settle_2_n0 × Vdisk_Disk_settle_2_n0) := match s with
  | { env := [(0, AV.ptr 0 0), (6, AV.ro (Ty.st (Ty.pair (Ty.int IntKind.i64) Ty.str)) t6), (7, AV.int IntKind.i64 t7), (8, AV.int IntKind.i64 t8)], stk := [[(0, AV.ptr 0 0)]], H := [AE.Obj.cells [AV.own 1, AV.map 2, AV.own 3, AV.int IntKind.i64 o0_3, AV.own 4, AV.int IntKind.i64 o0_5, AV.bool o0_6], Obj.arr Ty.str o1, Obj.mp IntKind.i64 Ty.str o2, Obj.arr (Ty.st (Ty.pair (Ty.int IntKind.i64) Ty.str)) o3, Obj.arr (Ty.int IntKind.i64) o4], blk := 249856 } => some ((t6, t7, o0_3, o0_5, o0_6, o2, o3, o4), (t8, o1))
  | _ => none
theorem decdisk_Disk_settle_2_n0_ok (s : St) (x : Idisk_Disk_settle_2_n0 × Vdisk_Disk_settle_2_n0) (h : decdisk_Disk_settle_2_n0 s = some x) : s = Sdisk_Disk_settle_2_n0 x.1 x.2 := by
  unfold decdisk_Disk_settle_2_n0 at h
  split at h
  · cases h; rfl
  · cases h
def outdisk_Disk_settle_2_n0 : Idisk_Disk_settle_2_n0 → (Ex → St → Ans) → Ydisk_Disk_settle_2_n0 → Ans := fun (t6, t7, o0_3, o0_5, o0_6, o2, o3, o4) K => fun o1_y => K (Ex.exit 0) { env := [(0, AV.ptr 0 0)], stk := [[(0, AV.ptr 0 0)]], H := [AE.Obj.cells [AV.own 1, AV.map 2, AV.own 3, AV.int IntKind.i64 o0_3, AV.own 4, AV.int IntKind.i64 o0_5, AV.bool o0_6], Obj.arr Ty.str o1_y, Obj.mp IntKind.i64 Ty.str o2, Obj.arr (Ty.st (Ty.pair (Ty.int IntKind.i64) Ty.str)) o3, Obj.arr (Ty.int IntKind.i64) o4], blk := 249856 }
def stepdisk_Disk_settle_2_n0 {β : Type} : Idisk_Disk_settle_2_n0 → Vdisk_Disk_settle_2_n0 → (Vdisk_Disk_settle_2_n0 → Option β) → (Ydisk_Disk_settle_2_n0 → Option β) → Option β := fun (t6, t7, o0_3, o0_5, o0_6, o2, o3, o4) (t8, o1) next exit => (bif decide (t8 < t7) then (bindO (nth t6 t8) fun x => (bif inR x.fst (List.length o1) then (bindO (o1[Int.toNat x.fst]?) fun x_2 => (next (IntKind.wrap IntKind.i64 (t8 + (1 : Int)), List.set o1 (Int.toNat x.fst) x.snd))) else none)) else (exit (o1)))
def stepDdisk_Disk_settle_2_n0 (i : Idisk_Disk_settle_2_n0) (v : Vdisk_Disk_settle_2_n0) : Option (Vdisk_Disk_settle_2_n0 ⊕ Ydisk_Disk_settle_2_n0) := stepdisk_Disk_settle_2_n0 i v (fun v => some (.inl v)) (fun y => some (.inr y))
theorem stepdisk_Disk_settle_2_n0_nat (i : Idisk_Disk_settle_2_n0) (v : Vdisk_Disk_settle_2_n0) (next : Vdisk_Disk_settle_2_n0 → Ans) (exit : Ydisk_Disk_settle_2_n0 → Ans) : stepdisk_Disk_settle_2_n0 i v next exit = bindO (stepDdisk_Disk_settle_2_n0 i v) (Sum.elim next exit) := by
  obtain ⟨t6, t7, o0_3, o0_5, o0_6, o2, o3, o4⟩ := i
  obtain ⟨t8, o1⟩ := v
  simp only [stepDdisk_Disk_settle_2_n0, stepdisk_Disk_settle_2_n0, bindO_cond, bindO_assoc, bindO_none, bindO_pure, bindO_elim, bindO_unP, Sum.elim_inl, Sum.elim_inr]
theorem stepdisk_Disk_settle_2_n0_ok (n : Nat) (i : Idisk_Disk_settle_2_n0) (v : Vdisk_Disk_settle_2_n0) (K : Ex → St → Ans) : codeI Try.tab envdisk_Disk_settle_2 noHint (codeD Try.tab envdisk_Disk_settle_2 noHint 0 64) (n+1) 29 annLdisk_Disk_settle_2_n0 (.loop Ldisk_Disk_settle_2_n0) (weakP 5 (exk [0] [] [(0, [0])]) K) (Sdisk_Disk_settle_2_n0 i v) = stepdisk_Disk_settle_2_n0 i v (fun v' => codeI Try.tab envdisk_Disk_settle_2 noHint (codeD Try.tab envdisk_Disk_settle_2 noHint 0 64) n 29 annLdisk_Disk_settle_2_n0 (.loop Ldisk_Disk_settle_2_n0) (weakP 5 (exk [0] [] [(0, [0])]) K) (Sdisk_Disk_settle_2_n0 i v')) (fun y => outdisk_Disk_settle_2_n0 i K y) := by kernel_rfl
theorem GNdisk_Disk_settle_2_n0_ok : CSum Try.prog 29 (.loop Ldisk_Disk_settle_2_n0) (sumL decdisk_Disk_settle_2_n0 stepDdisk_Disk_settle_2_n0 outdisk_Disk_settle_2_n0) := csum_loop mixed tabOk envdisk_Disk_settle_2Ok 5 (exk [0] [] [(0, [0])]) annLdisk_Disk_settle_2_n0_ok decdisk_Disk_settle_2_n0_ok stepdisk_Disk_settle_2_n0_ok stepdisk_Disk_settle_2_n0_nat
noncomputable def Gdisk_Disk_settle_2_n0 : (Ex → St → Ans) → St → Ans := (sumL decdisk_Disk_settle_2_n0 stepDdisk_Disk_settle_2_n0 outdisk_Disk_settle_2_n0)
theorem Gdisk_Disk_settle_2_n0_ok : CSum Try.prog 29 (.loop Ldisk_Disk_settle_2_n0) Gdisk_Disk_settle_2_n0 := GNdisk_Disk_settle_2_n0_ok
noncomputable def anndisk_Disk_settle_2 : Ann := (.seq (.seq .none (.block (.cut 5 [0, 6, 7, 8] Gdisk_Disk_settle_2_n0))) .none)
theorem anndisk_Disk_settle_2_ok : AnnOk Try.prog 29 bdisk_Disk_settle_2 anndisk_Disk_settle_2 := ⟨⟨(annOk_none _ _ _), Gdisk_Disk_settle_2_n0_ok⟩, (annOk_none _ _ _)⟩
abbrev Adisk_Disk_settle_2 := (List (Int × List UInt8)) × (Int) × (Int) × (Bool) × (List (List UInt8)) × (List (Int × List UInt8)) × (List (Int × List UInt8)) × (List Int)
abbrev Ydisk_Disk_settle_2 := (List (List UInt8))
def fndisk_Disk_settle_2 {β : Type} : Adisk_Disk_settle_2 → (Ydisk_Disk_settle_2 → Option β) → Option β := fun (a1, o0_3, o0_5, o0_6, o1, o2, o3, o4) exit => (bindO (loopD (stepDdisk_Disk_settle_2_n0 (a1, (↑(List.length a1) : Int), o0_3, o0_5, o0_6, o2, o3, o4)) FUEL ((0 : Int), o1)) fun o1_2 => (exit (o1_2)))
def fnDdisk_Disk_settle_2 (a : Adisk_Disk_settle_2) : Option Ydisk_Disk_settle_2 := fndisk_Disk_settle_2 a some
theorem fndisk_Disk_settle_2_nat (a : Adisk_Disk_settle_2) (k : Ydisk_Disk_settle_2 → Ans) : fndisk_Disk_settle_2 a k = bindO (fnDdisk_Disk_settle_2 a) k := by
  obtain ⟨a1, o0_3, o0_5, o0_6, o1, o2, o3, o4⟩ := a
  simp only [fnDdisk_Disk_settle_2, fndisk_Disk_settle_2, bindO_cond, bindO_assoc, bindO_none, bindO_pure, bindO_elim, bindO_unP]
def argsdisk_Disk_settle_2 : Adisk_Disk_settle_2 → List AV × List AE.Obj := fun (a1, o0_3, o0_5, o0_6, o1, o2, o3, o4) => ([AV.ptr 0 0, AV.ro (Ty.st (Ty.pair (Ty.int IntKind.i64) Ty.str)) a1], [AE.Obj.cells [AV.own 1, AV.map 2, AV.own 3, AV.int IntKind.i64 o0_3, AV.own 4, AV.int IntKind.i64 o0_5, AV.bool o0_6], Obj.arr Ty.str o1, Obj.mp IntKind.i64 Ty.str o2, Obj.arr (Ty.st (Ty.pair (Ty.int IntKind.i64) Ty.str)) o3, Obj.arr (Ty.int IntKind.i64) o4])
def decAdisk_Disk_settle_2 (l : List AV) (H : List AE.Obj) : Option Adisk_Disk_settle_2 := match l, H with
  | [AV.ptr 0 0, AV.ro (Ty.st (Ty.pair (Ty.int IntKind.i64) Ty.str)) a1], [AE.Obj.cells [AV.own 1, AV.map 2, AV.own 3, AV.int IntKind.i64 o0_3, AV.own 4, AV.int IntKind.i64 o0_5, AV.bool o0_6], Obj.arr Ty.str o1, Obj.mp IntKind.i64 Ty.str o2, Obj.arr (Ty.st (Ty.pair (Ty.int IntKind.i64) Ty.str)) o3, Obj.arr (Ty.int IntKind.i64) o4] => some (a1, o0_3, o0_5, o0_6, o1, o2, o3, o4)
  | _, _ => none
theorem decAdisk_Disk_settle_2_ok (l : List AV) (H : List AE.Obj) (a : Adisk_Disk_settle_2) (h : decAdisk_Disk_settle_2 l H = some a) : (l, H) = argsdisk_Disk_settle_2 a := by
  unfold decAdisk_Disk_settle_2 at h
  split at h
  · cases h; rfl
  · cases h
def outdisk_Disk_settle_2 : Adisk_Disk_settle_2 → (AV → List AE.Obj → Ans) → Ydisk_Disk_settle_2 → Ans := fun (a1, o0_3, o0_5, o0_6, o1, o2, o3, o4) K => fun o1_y => K (AV.tup []) [AE.Obj.cells [AV.own 1, AV.map 2, AV.own 5, AV.int IntKind.i64 o0_3, AV.own 4, AV.int IntKind.i64 o0_5, AV.bool o0_6], Obj.arr Ty.str o1_y, Obj.mp IntKind.i64 Ty.str ([]), Obj.arr (Ty.st (Ty.pair (Ty.int IntKind.i64) Ty.str)) o3, Obj.arr (Ty.int IntKind.i64) o4, Obj.arr (Ty.st (Ty.pair (Ty.int IntKind.i64) Ty.str)) ([])]
theorem fndisk_Disk_settle_2_ok (a : Adisk_Disk_settle_2) (K : AV → List AE.Obj → Ans) : fnE Try.tab envdisk_Disk_settle_2 noHint 0 70 61 Try.f61.ntmps Try.f61.results.toList anndisk_Disk_settle_2 bdisk_Disk_settle_2 (argsdisk_Disk_settle_2 a).1 (argsdisk_Disk_settle_2 a).2 K = fndisk_Disk_settle_2 a (outdisk_Disk_settle_2 a K) := by kernel_rfl
def vFdisk_Disk_settle_2 (a : Adisk_Disk_settle_2) (K : AV → List AE.Obj → Ans) : Ans := bindO (fnDdisk_Disk_settle_2 a) fun y => outdisk_Disk_settle_2 a K y
def Fdisk_Disk_settle_2 : List AV → List AE.Obj → (AV → List AE.Obj → Ans) → Ans := fun l H K => bindO (decAdisk_Disk_settle_2 l H) fun a => vFdisk_Disk_settle_2 a K
theorem Fdisk_Disk_settle_2_ok : FuncOk Try.prog 61 Fdisk_Disk_settle_2 := func_mkD (hint := noHint) (d := 0) (n := 70) mixed tabOk envdisk_Disk_settle_2Ok Try.func61 (bodySome (by kernel_rfl)) (by decide +kernel) anndisk_Disk_settle_2_ok decAdisk_Disk_settle_2_ok fndisk_Disk_settle_2_ok fndisk_Disk_settle_2_nat
--@ disk_Disk_Restart
noncomputable def envdisk_Disk_Restart : Env := [(61, .func Fdisk_Disk_settle_2)]
theorem envdisk_Disk_RestartOk : EnvOk Try.prog envdisk_Disk_Restart := EnvOk.cons Fdisk_Disk_settle_2_ok (EnvOk.nil)
noncomputable def bdisk_Disk_Restart : Code := Try.f16.body.getD .skip
noncomputable def Ldisk_Disk_Restart_n2 : Code := codeAt [1, 1, 0, 1, 0, 0, 1, 1, 0, 0, 1, 0] bdisk_Disk_Restart
noncomputable def annLdisk_Disk_Restart_n2 : Ann := .none
theorem annLdisk_Disk_Restart_n2_ok : AnnOk Try.prog 48 Ldisk_Disk_Restart_n2 annLdisk_Disk_Restart_n2 := (annOk_none _ _ _)
abbrev Idisk_Disk_Restart_n2 := (Int) × (Int) × (Int) × (Int) × (Int) × (Bool) × (List (List UInt8)) × (List (Int × List UInt8)) × (List (Int × List UInt8)) × (List Int) × (Int) × (List UInt8)
abbrev Ydisk_Disk_Restart_n2 := Unit
def Sdisk_Disk_Restart_n2 : Idisk_Disk_Restart_n2 → St := fun (t5, t13, t14, o0_3, o0_5, o0_6, o1, o2, o3, o4, o6_0, o6_1) => { env := [(0, AV.ptr 0 0), (1, AV.nils), (4, AV.own 5), (5, AV.int IntKind.i64 t5), (6, AV.ptr 6 0), (12, AV.own 3), (13, AV.int IntKind.i64 t13), (14, AV.int IntKind.i64 t14)], stk := [[(0, AV.ptr 0 0)]], H := [AE.Obj.cells [AV.own 1, AV.map 2, AV.own 3, AV.int IntKind.i64 o0_3, AV.own 4, AV.int IntKind.i64 o0_5, AV.bool o0_6], Obj.arr Ty.str o1, Obj.mp IntKind.i64 Ty.str o2, Obj.arr (Ty.st (Ty.pair (Ty.int IntKind.i64) Ty.str)) o3, Obj.arr (Ty.int IntKind.i64) o4, Obj.arr (Ty.st (Ty.pair (Ty.int IntKind.i64) Ty.str)) ([]), AE.Obj.cells [AV.int IntKind.i64 o6_0, AV.str o6_1]], blk := 65537 }
def decdisk_Disk_Restart_n2 (s : St) : Option Idisk_Disk_Restart_n2 := match s with
  | { env := [(0, AV.ptr 0 0), (1, AV.nils), (4, AV.own 5), (5, AV.int IntKind.i64 t5), (6, AV.ptr 6 0), (12, AV.own 3), (13, AV.int IntKind.i64 t13), (14, AV.int IntKind.i64 t14)], stk := [[(0, AV.ptr 0 0)]], H := [AE.Obj.cells [AV.own 1, AV.map 2, AV.own 3, AV.int IntKind.i64 o0_3, AV.own 4, AV.int IntKind.i64 o0_5, AV.bool o0_6], Obj.arr Ty.str o1, Obj.mp IntKind.i64 Ty.str o2, Obj.arr (Ty.st (Ty.pair (Ty.int IntKind.i64) Ty.str)) o3, Obj.arr (Ty.int IntKind.i64) o4, Obj.arr (Ty.st (Ty.pair (Ty.int IntKind.i64) Ty.str)) r10, AE.Obj.cells [AV.int IntKind.i64 o6_0, AV.str o6_1]], blk := 65537 } => cond (decide (r10 = [])) (some (t5, t13, t14, o0_3, o0_5, o0_6, o1, o2, o3, o4, o6_0, o6_1)) none
  | _ => none
theorem decdisk_Disk_Restart_n2_ok (s : St) (x : Idisk_Disk_Restart_n2) (h : decdisk_Disk_Restart_n2 s = some x) : s = Sdisk_Disk_Restart_n2 x := by
  unfold decdisk_Disk_Restart_n2 at h
  split at h
  · replace h := cond_noneO h; obtain ⟨hg, h⟩ := h; simp only [Bool.and_eq_true, decide_eq_true_eq] at hg; simp only [hg]; cases h; rfl
  · cases h
def outdisk_Disk_Restart_n2 : Idisk_Disk_Restart_n2 → (Ex → St → Ans) → Ydisk_Disk_Restart_n2 → Ans := fun (t5, t13, t14, o0_3, o0_5, o0_6, o1, o2, o3, o4, o6_0, o6_1) K => fun _ => K (Ex.norm) { env := [(0, AV.ptr 0 0), (1, AV.nils), (4, AV.own 5), (6, AV.ptr 6 0), (12, AV.own 3), (13, AV.int IntKind.i64 t13), (14, AV.int IntKind.i64 t14), (30, AV.bool (false))], stk := [[(0, AV.ptr 0 0)]], H := [AE.Obj.cells [AV.own 1, AV.map 2, AV.own 3, AV.int IntKind.i64 o0_3, AV.own 4, AV.int IntKind.i64 o0_5, AV.bool o0_6], Obj.arr Ty.str o1, Obj.mp IntKind.i64 Ty.str o2, Obj.arr (Ty.st (Ty.pair (Ty.int IntKind.i64) Ty.str)) o3, Obj.arr (Ty.int IntKind.i64) o4, Obj.arr (Ty.st (Ty.pair (Ty.int IntKind.i64) Ty.str)) ([]), AE.Obj.cells [AV.int IntKind.i64 o6_0, AV.str o6_1]], blk := 65537 }
def nodedisk_Disk_Restart_n2 {β : Type} : Idisk_Disk_Restart_n2 → (Ydisk_Disk_Restart_n2 → Option β) → Option β := fun (t5, t13, t14, o0_3, o0_5, o0_6, o1, o2, o3, o4, o6_0, o6_1) exit => (bif decide (t5 < (0 : Int)) then none else (exit ()))
def nodeDdisk_Disk_Restart_n2 (i : Idisk_Disk_Restart_n2) : Option Ydisk_Disk_Restart_n2 := nodedisk_Disk_Restart_n2 i some
theorem nodedisk_Disk_Restart_n2_nat (i : Idisk_Disk_Restart_n2) (k : Ydisk_Disk_Restart_n2 → Ans) : nodedisk_Disk_Restart_n2 i k = bindO (nodeDdisk_Disk_Restart_n2 i) k := by
  obtain ⟨t5, t13, t14, o0_3, o0_5, o0_6, o1, o2, o3, o4, o6_0, o6_1⟩ := i
  simp only [nodeDdisk_Disk_Restart_n2, nodedisk_Disk_Restart_n2, bindO_cond, bindO_assoc, bindO_none, bindO_pure, bindO_elim, bindO_unP]
theorem nodedisk_Disk_Restart_n2_ok (i : Idisk_Disk_Restart_n2) (K : Ex → St → Ans) : codeI Try.tab envdisk_Disk_Restart noHint (codeD Try.tab envdisk_Disk_Restart noHint 0 64) 70 48 annLdisk_Disk_Restart_n2 Ldisk_Disk_Restart_n2 (weakP 5 (exk [0, 1, 4, 6, 12, 13, 14, 30] [] []) K) (Sdisk_Disk_Restart_n2 i) = nodedisk_Disk_Restart_n2 i (outdisk_Disk_Restart_n2 i K) := by kernel_rfl
theorem GNdisk_Disk_Restart_n2_ok : CSum Try.prog 48 Ldisk_Disk_Restart_n2 (sumN decdisk_Disk_Restart_n2 nodeDdisk_Disk_Restart_n2 outdisk_Disk_Restart_n2) := csum_node mixed tabOk envdisk_Disk_RestartOk 5 (exk [0, 1, 4, 6, 12, 13, 14, 30] [] []) annLdisk_Disk_Restart_n2_ok decdisk_Disk_Restart_n2_ok nodedisk_Disk_Restart_n2_ok nodedisk_Disk_Restart_n2_nat
noncomputable def Gdisk_Disk_Restart_n2 : (Ex → St → Ans) → St → Ans := (sumN decdisk_Disk_Restart_n2 nodeDdisk_Disk_Restart_n2 outdisk_Disk_Restart_n2)
theorem Gdisk_Disk_Restart_n2_ok : CSum Try.prog 48 Ldisk_Disk_Restart_n2 Gdisk_Disk_Restart_n2 := GNdisk_Disk_Restart_n2_ok
noncomputable def Ldisk_Disk_Restart_n1 : Code := codeAt [1, 1, 0, 1, 0, 0, 1, 1, 0] bdisk_Disk_Restart
noncomputable def annLdisk_Disk_Restart_n1 : Ann := (.block (.seq .none (.seq (.cut 5 [0, 1, 4, 5, 6, 12, 13, 14] Gdisk_Disk_Restart_n2) .none)))
theorem annLdisk_Disk_Restart_n1_ok : AnnOk Try.prog 48 Ldisk_Disk_Restart_n1 annLdisk_Disk_Restart_n1 := ⟨(annOk_none _ _ _), ⟨Gdisk_Disk_Restart_n2_ok, (annOk_none _ _ _)⟩⟩
abbrev Idisk_Disk_Restart_n1 := (Int) × (Int) × (Int) × (Int) × (Bool) × (List (List UInt8)) × (List (Int × List UInt8)) × (List (Int × List UInt8)) × (List Int)
abbrev Ydisk_Disk_Restart_n1 := Unit
def Sdisk_Disk_Restart_n1 : Idisk_Disk_Restart_n1 → St := fun (t13, t14, o0_3, o0_5, o0_6, o1, o2, o3, o4) => { env := [(0, AV.ptr 0 0), (1, AV.nils), (4, AV.own 5), (12, AV.own 3), (13, AV.int IntKind.i64 t13), (14, AV.int IntKind.i64 t14)], stk := [[(0, AV.ptr 0 0)]], H := [AE.Obj.cells [AV.own 1, AV.map 2, AV.own 3, AV.int IntKind.i64 o0_3, AV.own 4, AV.int IntKind.i64 o0_5, AV.bool o0_6], Obj.arr Ty.str o1, Obj.mp IntKind.i64 Ty.str o2, Obj.arr (Ty.st (Ty.pair (Ty.int IntKind.i64) Ty.str)) o3, Obj.arr (Ty.int IntKind.i64) o4, Obj.arr (Ty.st (Ty.pair (Ty.int IntKind.i64) Ty.str)) ([])], blk := 65536 }
def decdisk_Disk_Restart_n1 (s : St) : Option Idisk_Disk_Restart_n1 := match s with
  | { env := [(0, AV.ptr 0 0), (1, AV.nils), (4, AV.own 5), (12, AV.own 3), (13, AV.int IntKind.i64 t13), (14, AV.int IntKind.i64 t14)], stk := [[(0, AV.ptr 0 0)]], H := [AE.Obj.cells [AV.own 1, AV.map 2, AV.own 3, AV.int IntKind.i64 o0_3, AV.own 4, AV.int IntKind.i64 o0_5, AV.bool o0_6], Obj.arr Ty.str o1, Obj.mp IntKind.i64 Ty.str o2, Obj.arr (Ty.st (Ty.pair (Ty.int IntKind.i64) Ty.str)) o3, Obj.arr (Ty.int IntKind.i64) o4, Obj.arr (Ty.st (Ty.pair (Ty.int IntKind.i64) Ty.str)) r9], blk := 65536 } => cond (decide (r9 = [])) (some (t13, t14, o0_3, o0_5, o0_6, o1, o2, o3, o4)) none
  | _ => none
theorem decdisk_Disk_Restart_n1_ok (s : St) (x : Idisk_Disk_Restart_n1) (h : decdisk_Disk_Restart_n1 s = some x) : s = Sdisk_Disk_Restart_n1 x := by
  unfold decdisk_Disk_Restart_n1 at h
  split at h
  · replace h := cond_noneO h; obtain ⟨hg, h⟩ := h; simp only [Bool.and_eq_true, decide_eq_true_eq] at hg; simp only [hg]; cases h; rfl
  · cases h
def outdisk_Disk_Restart_n1 : Idisk_Disk_Restart_n1 → (Ex → St → Ans) → Ydisk_Disk_Restart_n1 → Ans := fun (t13, t14, o0_3, o0_5, o0_6, o1, o2, o3, o4) K => fun _ => K (Ex.norm) { env := [(0, AV.ptr 0 0), (1, AV.nils), (4, AV.own 5), (12, AV.own 3), (13, AV.int IntKind.i64 t13), (14, AV.int IntKind.i64 t14)], stk := [[(0, AV.ptr 0 0)]], H := [AE.Obj.cells [AV.own 1, AV.map 2, AV.own 3, AV.int IntKind.i64 o0_3, AV.own 4, AV.int IntKind.i64 o0_5, AV.bool o0_6], Obj.arr Ty.str o1, Obj.mp IntKind.i64 Ty.str o2, Obj.arr (Ty.st (Ty.pair (Ty.int IntKind.i64) Ty.str)) o3, Obj.arr (Ty.int IntKind.i64) o4, Obj.arr (Ty.st (Ty.pair (Ty.int IntKind.i64) Ty.str)) ([])], blk := 65537 }
def nodedisk_Disk_Restart_n1 {β : Type} : Idisk_Disk_Restart_n1 → (Ydisk_Disk_Restart_n1 → Option β) → Option β := fun (t13, t14, o0_3, o0_5, o0_6, o1, o2, o3, o4) exit => (bif inR t14 (List.length o3) then (bindO (o3[Int.toNat t14]?) fun x => (bindO (nodeDdisk_Disk_Restart_n2 (t14, t13, t14, o0_3, o0_5, o0_6, o1, o2, o3, o4, x.fst, x.snd)) fun _ => (exit ()))) else none)
def nodeDdisk_Disk_Restart_n1 (i : Idisk_Disk_Restart_n1) : Option Ydisk_Disk_Restart_n1 := nodedisk_Disk_Restart_n1 i some
theorem nodedisk_Disk_Restart_n1_nat (i : Idisk_Disk_Restart_n1) (k : Ydisk_Disk_Restart_n1 → Ans) : nodedisk_Disk_Restart_n1 i k = bindO (nodeDdisk_Disk_Restart_n1 i) k := by
  obtain ⟨t13, t14, o0_3, o0_5, o0_6, o1, o2, o3, o4⟩ := i
  simp only [nodeDdisk_Disk_Restart_n1, nodedisk_Disk_Restart_n1, bindO_cond, bindO_assoc, bindO_none, bindO_pure, bindO_elim, bindO_unP]
theorem nodedisk_Disk_Restart_n1_ok (i : Idisk_Disk_Restart_n1) (K : Ex → St → Ans) : codeI Try.tab envdisk_Disk_Restart noHint (codeD Try.tab envdisk_Disk_Restart noHint 0 64) 70 48 annLdisk_Disk_Restart_n1 Ldisk_Disk_Restart_n1 (weakP 5 (exk [0, 1, 4, 12, 13, 14] [] []) K) (Sdisk_Disk_Restart_n1 i) = nodedisk_Disk_Restart_n1 i (outdisk_Disk_Restart_n1 i K) := by kernel_rfl
theorem GNdisk_Disk_Restart_n1_ok : CSum Try.prog 48 Ldisk_Disk_Restart_n1 (sumN decdisk_Disk_Restart_n1 nodeDdisk_Disk_Restart_n1 outdisk_Disk_Restart_n1) := csum_node mixed tabOk envdisk_Disk_RestartOk 5 (exk [0, 1, 4, 12, 13, 14] [] []) annLdisk_Disk_Restart_n1_ok decdisk_Disk_Restart_n1_ok nodedisk_Disk_Restart_n1_ok nodedisk_Disk_Restart_n1_nat
noncomputable def Gdisk_Disk_Restart_n1 : (Ex → St → Ans) → St → Ans := (sumN decdisk_Disk_Restart_n1 nodeDdisk_Disk_Restart_n1 outdisk_Disk_Restart_n1)
theorem Gdisk_Disk_Restart_n1_ok : CSum Try.prog 48 Ldisk_Disk_Restart_n1 Gdisk_Disk_Restart_n1 := GNdisk_Disk_Restart_n1_ok
noncomputable def Ldisk_Disk_Restart_n0 : Code := codeAt [1, 1, 0, 1, 0, 0] bdisk_Disk_Restart
noncomputable def annLdisk_Disk_Restart_n0 : Ann := .at 5 [0, 1, 4, 12, 13, 14] (.loop (.seq .none (.seq .none (.seq (.cut 5 [0, 1, 4, 12, 13, 14] Gdisk_Disk_Restart_n1) .none))))
theorem annLdisk_Disk_Restart_n0_ok : AnnOk Try.prog 48 (.loop Ldisk_Disk_Restart_n0) annLdisk_Disk_Restart_n0 := annOk_at ⟨(annOk_none _ _ _), ⟨(annOk_none _ _ _), ⟨Gdisk_Disk_Restart_n1_ok, (annOk_none _ _ _)⟩⟩⟩
abbrev Idisk_Disk_Restart_n0 := (Int) × (Int) × (Int) × (Bool) × (List (List UInt8)) × (List (Int × List UInt8)) × (List (Int × List UInt8)) × (List Int)
abbrev Ydisk_Disk_Restart_n0 := Unit
abbrev Vdisk_Disk_Restart_n0 := (Int)
def Sdisk_Disk_Restart_n0 : Idisk_Disk_Restart_n0 → Vdisk_Disk_Restart_n0 → St := fun (t13, o0_3, o0_5, o0_6, o1, o2, o3, o4) t14 => { env := [(0, AV.ptr 0 0), (1, AV.nils), (4, AV.own 5), (12, AV.own 3), (13, AV.int IntKind.i64 t13), (14, AV.int IntKind.i64 t14)], stk := [[(0, AV.ptr 0 0)]], H := [AE.Obj.cells [AV.own 1, AV.map 2, AV.own 3, AV.int IntKind.i64 o0_3, AV.own 4, AV.int IntKind.i64 o0_5, AV.bool o0_6], Obj.arr Ty.str o1, Obj.mp IntKind.i64 Ty.str o2, Obj.arr (Ty.st (Ty.pair (Ty.int IntKind.i64) Ty.str)) o3, Obj.arr (Ty.int IntKind.i64) o4, Obj.arr (Ty.st (Ty.pair (Ty.int IntKind.i64) Ty.str)) ([])], blk := 65536 }
def decdisk_Disk_Restart_n0 (s : St) : Option (Idisk_Disk_Restart_n0 × Vdisk_Disk_Restart_n0) := match s with
  | { env := [(0, AV.ptr 0 0), (1, AV.nils), (4, AV.own 5), (12, AV.own 3), (13, AV.int IntKind.i64 t13), (14, AV.int IntKind.i64 t14)], stk := [[(0, AV.ptr 0 0)]], H := [AE.Obj.cells [AV.own 1, AV.map 2, AV.own 3, AV.int IntKind.i64 o0_3, AV.own 4, AV.int IntKind.i64 o0_5, AV.bool o0_6], Obj.arr Ty.str o1, Obj.mp IntKind.i64 Ty.str o2, Obj.arr (Ty.st (Ty.pair (Ty.int IntKind.i64) Ty.str)) o3, Obj.arr (Ty.int IntKind.i64) o4, Obj.arr (Ty.st (Ty.pair (Ty.int IntKind.i64) Ty.str)) r9], blk := 65536 } => cond (decide (r9 = [])) (some ((t13, o0_3, o0_5, o0_6, o1, o2, o3, o4), t14)) none
  | _ => none
theorem decdisk_Disk_Restart_n0_ok (s : St) (x : Idisk_Disk_Restart_n0 × Vdisk_Disk_Restart_n0) (h : decdisk_Disk_Restart_n0 s = some x) : s = Sdisk_Disk_Restart_n0 x.1 x.2 := by
  unfold decdisk_Disk_Restart_n0 at h
  split at h
  · replace h := cond_noneO h; obtain ⟨hg, h⟩ := h; simp only [Bool.and_eq_true, decide_eq_true_eq] at hg; simp only [hg]; cases h; rfl
  · cases h
def outdisk_Disk_Restart_n0 : Idisk_Disk_Restart_n0 → (Ex → St → Ans) → Ydisk_Disk_Restart_n0 → Ans := fun (t13, o0_3, o0_5, o0_6, o1, o2, o3, o4) K => fun _ => K (Ex.exit 0) { env := [(0, AV.ptr 0 0), (4, AV.own 5)], stk := [[(0, AV.ptr 0 0)]], H := [AE.Obj.cells [AV.own 1, AV.map 2, AV.own 3, AV.int IntKind.i64 o0_3, AV.own 4, AV.int IntKind.i64 o0_5, AV.bool o0_6], Obj.arr Ty.str o1, Obj.mp IntKind.i64 Ty.str o2, Obj.arr (Ty.st (Ty.pair (Ty.int IntKind.i64) Ty.str)) o3, Obj.arr (Ty.int IntKind.i64) o4, Obj.arr (Ty.st (Ty.pair (Ty.int IntKind.i64) Ty.str)) ([])], blk := 65536 }
def stepdisk_Disk_Restart_n0 {β : Type} : Idisk_Disk_Restart_n0 → Vdisk_Disk_Restart_n0 → (Vdisk_Disk_Restart_n0 → Option β) → (Ydisk_Disk_Restart_n0 → Option β) → Option β := fun (t13, o0_3, o0_5, o0_6, o1, o2, o3, o4) t14 next exit => (bif decide (t14 < t13) then (bindO (nodeDdisk_Disk_Restart_n1 (t13, t14, o0_3, o0_5, o0_6, o1, o2, o3, o4)) fun _ => (next (IntKind.wrap IntKind.i64 (t14 + (1 : Int))))) else (exit ()))
def stepDdisk_Disk_Restart_n0 (i : Idisk_Disk_Restart_n0) (v : Vdisk_Disk_Restart_n0) : Option (Vdisk_Disk_Restart_n0 ⊕ Ydisk_Disk_Restart_n0) := stepdisk_Disk_Restart_n0 i v (fun v => some (.inl v)) (fun y => some (.inr y))
theorem stepdisk_Disk_Restart_n0_nat (i : Idisk_Disk_Restart_n0) (v : Vdisk_Disk_Restart_n0) (next : Vdisk_Disk_Restart_n0 → Ans) (exit : Ydisk_Disk_Restart_n0 → Ans) : stepdisk_Disk_Restart_n0 i v next exit = bindO (stepDdisk_Disk_Restart_n0 i v) (Sum.elim next exit) := by
  obtain ⟨t13, o0_3, o0_5, o0_6, o1, o2, o3, o4⟩ := i
  obtain z := v
  simp only [stepDdisk_Disk_Restart_n0, stepdisk_Disk_Restart_n0, bindO_cond, bindO_assoc, bindO_none, bindO_pure, bindO_elim, bindO_unP, Sum.elim_inl, Sum.elim_inr]
theorem stepdisk_Disk_Restart_n0_ok (n : Nat) (i : Idisk_Disk_Restart_n0) (v : Vdisk_Disk_Restart_n0) (K : Ex → St → Ans) : codeI Try.tab envdisk_Disk_Restart noHint (codeD Try.tab envdisk_Disk_Restart noHint 0 64) (n+1) 48 annLdisk_Disk_Restart_n0 (.loop Ldisk_Disk_Restart_n0) (weakP 5 (exk [0, 4] [] [(0, [0, 4])]) K) (Sdisk_Disk_Restart_n0 i v) = stepdisk_Disk_Restart_n0 i v (fun v' => codeI Try.tab envdisk_Disk_Restart noHint (codeD Try.tab envdisk_Disk_Restart noHint 0 64) n 48 annLdisk_Disk_Restart_n0 (.loop Ldisk_Disk_Restart_n0) (weakP 5 (exk [0, 4] [] [(0, [0, 4])]) K) (Sdisk_Disk_Restart_n0 i v')) (fun y => outdisk_Disk_Restart_n0 i K y) := by kernel_rfl
theorem GNdisk_Disk_Restart_n0_ok : CSum Try.prog 48 (.loop Ldisk_Disk_Restart_n0) (sumL decdisk_Disk_Restart_n0 stepDdisk_Disk_Restart_n0 outdisk_Disk_Restart_n0) := csum_loop mixed tabOk envdisk_Disk_RestartOk 5 (exk [0, 4] [] [(0, [0, 4])]) annLdisk_Disk_Restart_n0_ok decdisk_Disk_Restart_n0_ok stepdisk_Disk_Restart_n0_ok stepdisk_Disk_Restart_n0_nat
noncomputable def Gdisk_Disk_Restart_n0 : (Ex → St → Ans) → St → Ans := (sumL decdisk_Disk_Restart_n0 stepDdisk_Disk_Restart_n0 outdisk_Disk_Restart_n0)
theorem Gdisk_Disk_Restart_n0_ok : CSum Try.prog 48 (.loop Ldisk_Disk_Restart_n0) Gdisk_Disk_Restart_n0 := GNdisk_Disk_Restart_n0_ok
noncomputable def anndisk_Disk_Restart : Ann := (.seq .none (.seq .none (.seq (.seq .none (.block (.cut 5 [0, 1, 4, 12, 13, 14] Gdisk_Disk_Restart_n0))) .none)))
theorem anndisk_Disk_Restart_ok : AnnOk Try.prog 48 bdisk_Disk_Restart anndisk_Disk_Restart := ⟨(annOk_none _ _ _), ⟨(annOk_none _ _ _), ⟨⟨(annOk_none _ _ _), Gdisk_Disk_Restart_n0_ok⟩, (annOk_none _ _ _)⟩⟩⟩
abbrev Adisk_Disk_Restart := (Int) × (Int) × (Bool) × (List (List UInt8)) × (List (Int × List UInt8)) × (List (Int × List UInt8)) × (List Int)
abbrev Ydisk_Disk_Restart := (List (List UInt8))
def fndisk_Disk_Restart {β : Type} : Adisk_Disk_Restart → (Ydisk_Disk_Restart → Option β) → Option β := fun (o0_3, o0_5, o0_6, o1, o2, o3, o4) exit => (bindO (loopD (stepDdisk_Disk_Restart_n0 ((↑(List.length o3) : Int), o0_3, o0_5, o0_6, o1, o2, o3, o4)) FUEL ((0 : Int))) fun _ => (bindO (fnDdisk_Disk_settle_2 ([], o0_3, o0_5, o0_6, o1, o2, o3, o4)) fun o1_2 => (exit (o1_2))))
def fnDdisk_Disk_Restart (a : Adisk_Disk_Restart) : Option Ydisk_Disk_Restart := fndisk_Disk_Restart a some
theorem fndisk_Disk_Restart_nat (a : Adisk_Disk_Restart) (k : Ydisk_Disk_Restart → Ans) : fndisk_Disk_Restart a k = bindO (fnDdisk_Disk_Restart a) k := by
  obtain ⟨o0_3, o0_5, o0_6, o1, o2, o3, o4⟩ := a
  simp only [fnDdisk_Disk_Restart, fndisk_Disk_Restart, bindO_cond, bindO_assoc, bindO_none, bindO_pure, bindO_elim, bindO_unP]
def argsdisk_Disk_Restart : Adisk_Disk_Restart → List AV × List AE.Obj := fun (o0_3, o0_5, o0_6, o1, o2, o3, o4) => ([AV.ptr 0 0, AV.nils], [AE.Obj.cells [AV.own 1, AV.map 2, AV.own 3, AV.int IntKind.i64 o0_3, AV.own 4, AV.int IntKind.i64 o0_5, AV.bool o0_6], Obj.arr Ty.str o1, Obj.mp IntKind.i64 Ty.str o2, Obj.arr (Ty.st (Ty.pair (Ty.int IntKind.i64) Ty.str)) o3, Obj.arr (Ty.int IntKind.i64) o4])
def decAdisk_Disk_Restart (l : List AV) (H : List AE.Obj) : Option Adisk_Disk_Restart := match l, H with
  | [AV.ptr 0 0, AV.nils], [AE.Obj.cells [AV.own 1, AV.map 2, AV.own 3, AV.int IntKind.i64 o0_3, AV.own 4, AV.int IntKind.i64 o0_5, AV.bool o0_6], Obj.arr Ty.str o1, Obj.mp IntKind.i64 Ty.str o2, Obj.arr (Ty.st (Ty.pair (Ty.int IntKind.i64) Ty.str)) o3, Obj.arr (Ty.int IntKind.i64) o4] => some (o0_3, o0_5, o0_6, o1, o2, o3, o4)
  | _, _ => none
theorem decAdisk_Disk_Restart_ok (l : List AV) (H : List AE.Obj) (a : Adisk_Disk_Restart) (h : decAdisk_Disk_Restart l H = some a) : (l, H) = argsdisk_Disk_Restart a := by
  unfold decAdisk_Disk_Restart at h
  split at h
  · cases h; rfl
  · cases h
def outdisk_Disk_Restart : Adisk_Disk_Restart → (AV → List AE.Obj → Ans) → Ydisk_Disk_Restart → Ans := fun (o0_3, o0_5, o0_6, o1, o2, o3, o4) K => fun o1_y => K (AV.tup []) [AE.Obj.cells [AV.own 1, AV.map 2, AV.own 5, AV.int IntKind.i64 o0_3, AV.own 6, AV.int IntKind.i64 (0), AV.bool (false)], Obj.arr Ty.str o1_y, Obj.mp IntKind.i64 Ty.str ([]), Obj.arr (Ty.st (Ty.pair (Ty.int IntKind.i64) Ty.str)) o3, Obj.arr (Ty.int IntKind.i64) o4, Obj.arr (Ty.st (Ty.pair (Ty.int IntKind.i64) Ty.str)) ([]), Obj.arr (Ty.int IntKind.i64) ([])]
theorem fndisk_Disk_Restart_ok (a : Adisk_Disk_Restart) (K : AV → List AE.Obj → Ans) : fnE Try.tab envdisk_Disk_Restart noHint 0 70 16 Try.f16.ntmps Try.f16.results.toList anndisk_Disk_Restart bdisk_Disk_Restart (argsdisk_Disk_Restart a).1 (argsdisk_Disk_Restart a).2 K = fndisk_Disk_Restart a (outdisk_Disk_Restart a K) := by kernel_rfl
def vFdisk_Disk_Restart (a : Adisk_Disk_Restart) (K : AV → List AE.Obj → Ans) : Ans := bindO (fnDdisk_Disk_Restart a) fun y => outdisk_Disk_Restart a K y
def Fdisk_Disk_Restart : List AV → List AE.Obj → (AV → List AE.Obj → Ans) → Ans := fun l H K => bindO (decAdisk_Disk_Restart l H) fun a => vFdisk_Disk_Restart a K
theorem Fdisk_Disk_Restart_ok : FuncOk Try.prog 16 Fdisk_Disk_Restart := func_mkD (hint := noHint) (d := 0) (n := 70) mixed tabOk envdisk_Disk_RestartOk Try.func16 (bodySome (by kernel_rfl)) (by decide +kernel) anndisk_Disk_Restart_ok decAdisk_Disk_Restart_ok fndisk_Disk_Restart_ok fndisk_Disk_Restart_nat
--@ disk_Disk_Read
noncomputable def envdisk_Disk_Read : Env := [(59, .func Fdisk_Disk_call), (60, .func Fdisk_Disk_there)]
theorem envdisk_Disk_ReadOk : EnvOk Try.prog envdisk_Disk_Read := EnvOk.cons Fdisk_Disk_call_ok (EnvOk.cons Fdisk_Disk_there_ok (EnvOk.nil))
noncomputable def bdisk_Disk_Read : Code := Try.f17.body.getD .skip
noncomputable def anndisk_Disk_Read : Ann := .none
theorem anndisk_Disk_Read_ok : AnnOk Try.prog 42 bdisk_Disk_Read anndisk_Disk_Read := (annOk_none _ _ _)
abbrev Adisk_Disk_Read := (Int) × (Int) × (Int) × (Bool) × (List (List UInt8)) × (List (Int × List UInt8)) × (List (Int × List UInt8)) × (List Int)
abbrev Ydisk_Disk_Read := (List UInt8) × (Int) × (Int) × (Bool)
def fndisk_Disk_Read {β : Type} : Adisk_Disk_Read → (Ydisk_Disk_Read → Option β) → Option β := fun (a1, o0_3, o0_5, o0_6, o1, o2, o3, o4) exit => (bindO (fnDdisk_Disk_call (o0_3, o0_5, o0_6, o1, o2, o3, o4)) (unP fun r_0 => unP fun r_1 => unP fun o0_3_2 o0_6_2 => (bif r_0 != (0 : Int) then (exit ([], r_0, o0_3_2, o0_6_2)) else (bindO (fnDdisk_Disk_there (a1, o0_3_2, o0_5, o0_6_2, o1, o2, o3, o4)) fun r => (bif !r then (exit ([], (3 : Int), o0_3_2, o0_6_2)) else (bif mhas a1 o2 then (exit (mget a1 [] o2, (0 : Int), o0_3_2, o0_6_2)) else (bif inR a1 (List.length o1) then (bindO (o1[Int.toNat a1]?) fun x => (exit (x, (0 : Int), o0_3_2, o0_6_2))) else none)))))))
def fnDdisk_Disk_Read (a : Adisk_Disk_Read) : Option Ydisk_Disk_Read := fndisk_Disk_Read a some
theorem fndisk_Disk_Read_nat (a : Adisk_Disk_Read) (k : Ydisk_Disk_Read → Ans) : fndisk_Disk_Read a k = bindO (fnDdisk_Disk_Read a) k := by
  obtain ⟨a1, o0_3, o0_5, o0_6, o1, o2, o3, o4⟩ := a
  simp only [fnDdisk_Disk_Read, fndisk_Disk_Read, bindO_cond, bindO_assoc, bindO_none, bindO_pure, bindO_elim, bindO_unP]
def argsdisk_Disk_Read : Adisk_Disk_Read → List AV × List AE.Obj := fun (a1, o0_3, o0_5, o0_6, o1, o2, o3, o4) => ([AV.ptr 0 0, AV.int IntKind.i64 a1], [AE.Obj.cells [AV.own 1, AV.map 2, AV.own 3, AV.int IntKind.i64 o0_3, AV.own 4, AV.int IntKind.i64 o0_5, AV.bool o0_6], Obj.arr Ty.str o1, Obj.mp IntKind.i64 Ty.str o2, Obj.arr (Ty.st (Ty.pair (Ty.int IntKind.i64) Ty.str)) o3, Obj.arr (Ty.int IntKind.i64) o4])
def decAdisk_Disk_Read (l : List AV) (H : List AE.Obj) : Option Adisk_Disk_Read := match l, H with
  | [AV.ptr 0 0, AV.int IntKind.i64 a1], [AE.Obj.cells [AV.own 1, AV.map 2, AV.own 3, AV.int IntKind.i64 o0_3, AV.own 4, AV.int IntKind.i64 o0_5, AV.bool o0_6], Obj.arr Ty.str o1, Obj.mp IntKind.i64 Ty.str o2, Obj.arr (Ty.st (Ty.pair (Ty.int IntKind.i64) Ty.str)) o3, Obj.arr (Ty.int IntKind.i64) o4] => some (a1, o0_3, o0_5, o0_6, o1, o2, o3, o4)
  | _, _ => none
theorem decAdisk_Disk_Read_ok (l : List AV) (H : List AE.Obj) (a : Adisk_Disk_Read) (h : decAdisk_Disk_Read l H = some a) : (l, H) = argsdisk_Disk_Read a := by
  unfold decAdisk_Disk_Read at h
  split at h
  · cases h; rfl
  · cases h
def outdisk_Disk_Read : Adisk_Disk_Read → (AV → List AE.Obj → Ans) → Ydisk_Disk_Read → Ans := fun (a1, o0_3, o0_5, o0_6, o1, o2, o3, o4) K => unP fun r_0_y => unP fun r_1_y => unP fun o0_3_y o0_6_y => K (AV.tup [AV.str r_0_y, AV.int IntKind.i64 r_1_y]) [AE.Obj.cells [AV.own 1, AV.map 2, AV.own 3, AV.int IntKind.i64 o0_3_y, AV.own 4, AV.int IntKind.i64 o0_5, AV.bool o0_6_y], Obj.arr Ty.str o1, Obj.mp IntKind.i64 Ty.str o2, Obj.arr (Ty.st (Ty.pair (Ty.int IntKind.i64) Ty.str)) o3, Obj.arr (Ty.int IntKind.i64) o4]
theorem fndisk_Disk_Read_ok (a : Adisk_Disk_Read) (K : AV → List AE.Obj → Ans) : fnE Try.tab envdisk_Disk_Read noHint 0 70 17 Try.f17.ntmps Try.f17.results.toList anndisk_Disk_Read bdisk_Disk_Read (argsdisk_Disk_Read a).1 (argsdisk_Disk_Read a).2 K = fndisk_Disk_Read a (outdisk_Disk_Read a K) := by kernel_rfl
def vFdisk_Disk_Read (a : Adisk_Disk_Read) (K : AV → List AE.Obj → Ans) : Ans := bindO (fnDdisk_Disk_Read a) fun y => outdisk_Disk_Read a K y
def Fdisk_Disk_Read : List AV → List AE.Obj → (AV → List AE.Obj → Ans) → Ans := fun l H K => bindO (decAdisk_Disk_Read l H) fun a => vFdisk_Disk_Read a K
theorem Fdisk_Disk_Read_ok : FuncOk Try.prog 17 Fdisk_Disk_Read := func_mkD (hint := noHint) (d := 0) (n := 70) mixed tabOk envdisk_Disk_ReadOk Try.func17 (bodySome (by kernel_rfl)) (by decide +kernel) anndisk_Disk_Read_ok decAdisk_Disk_Read_ok fndisk_Disk_Read_ok fndisk_Disk_Read_nat
--@ disk_Disk_Ops
noncomputable def envdisk_Disk_Ops : Env := []
theorem envdisk_Disk_OpsOk : EnvOk Try.prog envdisk_Disk_Ops := EnvOk.nil
noncomputable def bdisk_Disk_Ops : Code := Try.f21.body.getD .skip
noncomputable def anndisk_Disk_Ops : Ann := .none
theorem anndisk_Disk_Ops_ok : AnnOk Try.prog 9 bdisk_Disk_Ops anndisk_Disk_Ops := (annOk_none _ _ _)
abbrev Adisk_Disk_Ops := (Int) × (Int) × (Bool) × (List (List UInt8)) × (List (Int × List UInt8)) × (List (Int × List UInt8)) × (List Int)
abbrev Ydisk_Disk_Ops := Unit
def fndisk_Disk_Ops {β : Type} : Adisk_Disk_Ops → (Ydisk_Disk_Ops → Option β) → Option β := fun (o0_3, o0_5, o0_6, o1, o2, o3, o4) exit => (exit ())
def fnDdisk_Disk_Ops (a : Adisk_Disk_Ops) : Option Ydisk_Disk_Ops := fndisk_Disk_Ops a some
theorem fndisk_Disk_Ops_nat (a : Adisk_Disk_Ops) (k : Ydisk_Disk_Ops → Ans) : fndisk_Disk_Ops a k = bindO (fnDdisk_Disk_Ops a) k := by
  obtain ⟨o0_3, o0_5, o0_6, o1, o2, o3, o4⟩ := a
  simp only [fnDdisk_Disk_Ops, fndisk_Disk_Ops, bindO_cond, bindO_assoc, bindO_none, bindO_pure, bindO_elim, bindO_unP]
def argsdisk_Disk_Ops : Adisk_Disk_Ops → List AV × List AE.Obj := fun (o0_3, o0_5, o0_6, o1, o2, o3, o4) => ([AV.ptr 0 0], [AE.Obj.cells [AV.own 1, AV.map 2, AV.own 3, AV.int IntKind.i64 o0_3, AV.own 4, AV.int IntKind.i64 o0_5, AV.bool o0_6], Obj.arr Ty.str o1, Obj.mp IntKind.i64 Ty.str o2, Obj.arr (Ty.st (Ty.pair (Ty.int IntKind.i64) Ty.str)) o3, Obj.arr (Ty.int IntKind.i64) o4])
def decAdisk_Disk_Ops (l : List AV) (H : List AE.Obj) : Option Adisk_Disk_Ops := match l, H with
  | [AV.ptr 0 0], [AE.Obj.cells [AV.own 1, AV.map 2, AV.own 3, AV.int IntKind.i64 o0_3, AV.own 4, AV.int IntKind.i64 o0_5, AV.bool o0_6], Obj.arr Ty.str o1, Obj.mp IntKind.i64 Ty.str o2, Obj.arr (Ty.st (Ty.pair (Ty.int IntKind.i64) Ty.str)) o3, Obj.arr (Ty.int IntKind.i64) o4] => some (o0_3, o0_5, o0_6, o1, o2, o3, o4)
  | _, _ => none
theorem decAdisk_Disk_Ops_ok (l : List AV) (H : List AE.Obj) (a : Adisk_Disk_Ops) (h : decAdisk_Disk_Ops l H = some a) : (l, H) = argsdisk_Disk_Ops a := by
  unfold decAdisk_Disk_Ops at h
  split at h
  · cases h; rfl
  · cases h
def outdisk_Disk_Ops : Adisk_Disk_Ops → (AV → List AE.Obj → Ans) → Ydisk_Disk_Ops → Ans := fun (o0_3, o0_5, o0_6, o1, o2, o3, o4) K => fun _ => K (AV.int IntKind.i64 o0_3) [AE.Obj.cells [AV.own 1, AV.map 2, AV.own 3, AV.int IntKind.i64 o0_3, AV.own 4, AV.int IntKind.i64 o0_5, AV.bool o0_6], Obj.arr Ty.str o1, Obj.mp IntKind.i64 Ty.str o2, Obj.arr (Ty.st (Ty.pair (Ty.int IntKind.i64) Ty.str)) o3, Obj.arr (Ty.int IntKind.i64) o4]
theorem fndisk_Disk_Ops_ok (a : Adisk_Disk_Ops) (K : AV → List AE.Obj → Ans) : fnE Try.tab envdisk_Disk_Ops noHint 0 70 21 Try.f21.ntmps Try.f21.results.toList anndisk_Disk_Ops bdisk_Disk_Ops (argsdisk_Disk_Ops a).1 (argsdisk_Disk_Ops a).2 K = fndisk_Disk_Ops a (outdisk_Disk_Ops a K) := by kernel_rfl
def vFdisk_Disk_Ops (a : Adisk_Disk_Ops) (K : AV → List AE.Obj → Ans) : Ans := bindO (fnDdisk_Disk_Ops a) fun y => outdisk_Disk_Ops a K y
def Fdisk_Disk_Ops : List AV → List AE.Obj → (AV → List AE.Obj → Ans) → Ans := fun l H K => bindO (decAdisk_Disk_Ops l H) fun a => vFdisk_Disk_Ops a K
theorem Fdisk_Disk_Ops_ok : FuncOk Try.prog 21 Fdisk_Disk_Ops := func_mkD (hint := noHint) (d := 0) (n := 70) mixed tabOk envdisk_Disk_OpsOk Try.func21 (bodySome (by kernel_rfl)) (by decide +kernel) anndisk_Disk_Ops_ok decAdisk_Disk_Ops_ok fndisk_Disk_Ops_ok fndisk_Disk_Ops_nat
end Go.Proofs.R3
namespace Go.Proofs.R3
open Go Go.AE
--@ law08_works
noncomputable def envlaw08_works : Env := [(12, .func Fdisk_New), (23, .func Fdisk_Disk_Sectors), (13, .func Fdisk_Disk_Write), (14, .func Fdisk_Disk_Flush), (16, .func Fdisk_Disk_Restart), (17, .func Fdisk_Disk_Read), (21, .func Fdisk_Disk_Ops)]
theorem envlaw08_worksOk : EnvOk Try.prog envlaw08_works := EnvOk.cons Fdisk_New_ok (EnvOk.cons Fdisk_Disk_Sectors_ok (EnvOk.cons Fdisk_Disk_Write_ok (EnvOk.cons Fdisk_Disk_Flush_ok (EnvOk.cons Fdisk_Disk_Restart_ok (EnvOk.cons Fdisk_Disk_Read_ok (EnvOk.cons Fdisk_Disk_Ops_ok (EnvOk.nil)))))))
noncomputable def blaw08_works : Code := Try.f11.body.getD .skip
noncomputable def Llaw08_works_n1 : Code := codeAt [1, 1, 1, 1, 1, 1, 0] blaw08_works
noncomputable def annLlaw08_works_n1 : Ann := .none
theorem annLlaw08_works_n1_ok : AnnOk Try.prog 57 Llaw08_works_n1 annLlaw08_works_n1 := (annOk_none _ _ _)
abbrev Ilaw08_works_n1 := (Int) × (Int) × (Int) × (List UInt8) × (Int) × (Int) × (Bool) × (List (List UInt8))
abbrev Ylaw08_works_n1 := (Bool)
def Slaw08_works_n1 : Ilaw08_works_n1 → St := fun (t3, t4, t5, t6, t7, o0_3, o0_6, o1) => { env := [(1, AV.ptr 0 0), (2, AV.str ([0, 0, 0, 0, 0, 0, 0, 0, 0, 0, 0, 0, 0, 0, 0, 0, 0, 0, 0, 0, 0, 0, 0, 0, 0, 0, 0, 0, 0, 0, 0, 0, 0, 0, 0, 0, 0, 0, 0, 0, 0, 0, 0, 0, 0, 0, 0, 0, 0, 0, 0, 0, 0, 0, 0, 0, 0, 0, 0, 0, 0, 0, 0, 120])), (3, AV.int IntKind.i64 t3), (4, AV.int IntKind.i64 t4), (5, AV.int IntKind.i64 t5), (6, AV.str t6), (7, AV.int IntKind.i64 t7)], stk := [[]], H := [AE.Obj.cells [AV.own 1, AV.map 2, AV.own 3, AV.int IntKind.i64 o0_3, AV.own 4, AV.int IntKind.i64 (0), AV.bool o0_6], Obj.arr Ty.str o1, Obj.mp IntKind.i64 Ty.str ([]), Obj.arr (Ty.st (Ty.pair (Ty.int IntKind.i64) Ty.str)) ([]), Obj.arr (Ty.int IntKind.i64) ([])], blk := 45056 }
def declaw08_works_n1 (s : St) : Option Ilaw08_works_n1 := match s with
  | { env := [(1, AV.ptr 0 0), (2, AV.str r0), (3, AV.int IntKind.i64 t3), (4, AV.int IntKind.i64 t4), (5, AV.int IntKind.i64 t5), (6, AV.str t6), (7, AV.int IntKind.i64 t7)], stk := [[]], H := [AE.Obj.cells [AV.own 1, AV.map 2, AV.own 3, AV.int IntKind.i64 o0_3, AV.own 4, AV.int IntKind.i64 r7, AV.bool o0_6], Obj.arr Ty.str o1, Obj.mp IntKind.i64 Ty.str r10, Obj.arr (Ty.st (Ty.pair (Ty.int IntKind.i64) Ty.str)) r11, Obj.arr (Ty.int IntKind.i64) r12], blk := 45056 } => cond (decide (r0 = [0, 0, 0, 0, 0, 0, 0, 0, 0, 0, 0, 0, 0, 0, 0, 0, 0, 0, 0, 0, 0, 0, 0, 0, 0, 0, 0, 0, 0, 0, 0, 0, 0, 0, 0, 0, 0, 0, 0, 0, 0, 0, 0, 0, 0, 0, 0, 0, 0, 0, 0, 0, 0, 0, 0, 0, 0, 0, 0, 0, 0, 0, 0, 120]) && decide (r7 = 0) && decide (r10 = []) && decide (r11 = []) && decide (r12 = [])) (some (t3, t4, t5, t6, t7, o0_3, o0_6, o1)) none
  | _ => none
theorem declaw08_works_n1_ok (s : St) (x : Ilaw08_works_n1) (h : declaw08_works_n1 s = some x) : s = Slaw08_works_n1 x := by
  unfold declaw08_works_n1 at h
  split at h
  · replace h := cond_noneO h; obtain ⟨hg, h⟩ := h; simp only [Bool.and_eq_true, decide_eq_true_eq] at hg; simp only [hg]; cases h; rfl
  · cases h
def outlaw08_works_n1 : Ilaw08_works_n1 → (Ex → St → Ans) → Ylaw08_works_n1 → Ans := fun (t3, t4, t5, t6, t7, o0_3, o0_6, o1) K => fun t0_y => K (Ex.norm) { env := [(0, AV.bool t0_y)], stk := [[]], H := [], blk := 45056 }
def nodelaw08_works_n1 {β : Type} : Ilaw08_works_n1 → (Ylaw08_works_n1 → Option β) → Option β := fun (t3, t4, t5, t6, t7, o0_3, o0_6, o1) exit => (bif t3 == (0 : Int) then (bif t4 == (0 : Int) then (bif t5 == (0 : Int) then (bif t6 == [(0 : UInt8), (0 : UInt8), (0 : UInt8), (0 : UInt8), (0 : UInt8), (0 : UInt8), (0 : UInt8), (0 : UInt8), (0 : UInt8), (0 : UInt8), (0 : UInt8), (0 : UInt8), (0 : UInt8), (0 : UInt8), (0 : UInt8), (0 : UInt8), (0 : UInt8), (0 : UInt8), (0 : UInt8), (0 : UInt8), (0 : UInt8), (0 : UInt8), (0 : UInt8), (0 : UInt8), (0 : UInt8), (0 : UInt8), (0 : UInt8), (0 : UInt8), (0 : UInt8), (0 : UInt8), (0 : UInt8), (0 : UInt8), (0 : UInt8), (0 : UInt8), (0 : UInt8), (0 : UInt8), (0 : UInt8), (0 : UInt8), (0 : UInt8), (0 : UInt8), (0 : UInt8), (0 : UInt8), (0 : UInt8), (0 : UInt8), (0 : UInt8), (0 : UInt8), (0 : UInt8), (0 : UInt8), (0 : UInt8), (0 : UInt8), (0 : UInt8), (0 : UInt8), (0 : UInt8), (0 : UInt8), (0 : UInt8), (0 : UInt8), (0 : UInt8), (0 : UInt8), (0 : UInt8), (0 : UInt8), (0 : UInt8), (0 : UInt8), (0 : UInt8), (120 : UInt8)] then (bif t7 == (0 : Int) then (bindO (fnDdisk_Disk_Sectors (o0_3, (0 : Int), o0_6, o1, [], [], [])) fun r => (bif r == (2 : Int) then (bindO (fnDdisk_Disk_Ops (o0_3, (0 : Int), o0_6, o1, [], [], [])) fun _ => (exit (o0_3 == (4 : Int)))) else (exit (false)))) else (exit (false))) else (exit (false))) else (exit (false))) else (exit (false))) else (exit (false)))
def nodeDlaw08_works_n1 (i : Ilaw08_works_n1) : Option Ylaw08_works_n1 := nodelaw08_works_n1 i some
theorem nodelaw08_works_n1_nat (i : Ilaw08_works_n1) (k : Ylaw08_works_n1 → Ans) : nodelaw08_works_n1 i k = bindO (nodeDlaw08_works_n1 i) k := by
  obtain ⟨t3, t4, t5, t6, t7, o0_3, o0_6, o1⟩ := i
  simp only [nodeDlaw08_works_n1, nodelaw08_works_n1, bindO_cond, bindO_assoc, bindO_none, bindO_pure, bindO_elim, bindO_unP]
theorem nodelaw08_works_n1_ok (i : Ilaw08_works_n1) (K : Ex → St → Ans) : codeI Try.tab envlaw08_works noHint (codeD Try.tab envlaw08_works noHint 0 64) 70 57 annLlaw08_works_n1 Llaw08_works_n1 (weakP 0 (exk [0] [0] []) K) (Slaw08_works_n1 i) = nodelaw08_works_n1 i (outlaw08_works_n1 i K) := by kernel_rfl
theorem GNlaw08_works_n1_ok : CSum Try.prog 57 Llaw08_works_n1 (sumN declaw08_works_n1 nodeDlaw08_works_n1 outlaw08_works_n1) := csum_node mixed tabOk envlaw08_worksOk 0 (exk [0] [0] []) annLlaw08_works_n1_ok declaw08_works_n1_ok nodelaw08_works_n1_ok nodelaw08_works_n1_nat
noncomputable def Glaw08_works_n1 : (Ex → St → Ans) → St → Ans := (sumN declaw08_works_n1 nodeDlaw08_works_n1 outlaw08_works_n1)
theorem Glaw08_works_n1_ok : CSum Try.prog 57 Llaw08_works_n1 Glaw08_works_n1 := GNlaw08_works_n1_ok
noncomputable def Llaw08_works_n0 : Code := codeAt [1, 1, 1, 0] blaw08_works
noncomputable def annLlaw08_works_n0 : Ann := .none
theorem annLlaw08_works_n0_ok : AnnOk Try.prog 57 Llaw08_works_n0 annLlaw08_works_n0 := (annOk_none _ _ _)
abbrev Ilaw08_works_n0 := (List (List UInt8))
abbrev Ylaw08_works_n0 := (Int) × (Int) × (Int) × (Int) × (Bool) × (List (List UInt8)) × (List (Int × List UInt8)) × (List (Int × List UInt8))
def Slaw08_works_n0 : Ilaw08_works_n0 → St := fun o1 => { env := [(1, AV.ptr 0 0), (2, AV.str ([0, 0, 0, 0, 0, 0, 0, 0, 0, 0, 0, 0, 0, 0, 0, 0, 0, 0, 0, 0, 0, 0, 0, 0, 0, 0, 0, 0, 0, 0, 0, 0, 0, 0, 0, 0, 0, 0, 0, 0, 0, 0, 0, 0, 0, 0, 0, 0, 0, 0, 0, 0, 0, 0, 0, 0, 0, 0, 0, 0, 0, 0, 0, 120]))], stk := [[]], H := [AE.Obj.cells [AV.own 1, AV.map 2, AV.own 3, AV.int IntKind.i64 (0), AV.own 4, AV.int IntKind.i64 (0), AV.bool (false)], Obj.arr Ty.str o1, Obj.mp IntKind.i64 Ty.str ([]), Obj.arr (Ty.st (Ty.pair (Ty.int IntKind.i64) Ty.str)) ([]), Obj.arr (Ty.int IntKind.i64) ([])], blk := 45056 }
def declaw08_works_n0 (s : St) : Option Ilaw08_works_n0 := match s with
  | { env := [(1, AV.ptr 0 0), (2, AV.str r0)], stk := [[]], H := [AE.Obj.cells [AV.own 1, AV.map 2, AV.own 3, AV.int IntKind.i64 r1, AV.own 4, AV.int IntKind.i64 r2, AV.bool r3], Obj.arr Ty.str o1, Obj.mp IntKind.i64 Ty.str r5, Obj.arr (Ty.st (Ty.pair (Ty.int IntKind.i64) Ty.str)) r6, Obj.arr (Ty.int IntKind.i64) r7], blk := 45056 } => cond (decide (r0 = [0, 0, 0, 0, 0, 0, 0, 0, 0, 0, 0, 0, 0, 0, 0, 0, 0, 0, 0, 0, 0, 0, 0, 0, 0, 0, 0, 0, 0, 0, 0, 0, 0, 0, 0, 0, 0, 0, 0, 0, 0, 0, 0, 0, 0, 0, 0, 0, 0, 0, 0, 0, 0, 0, 0, 0, 0, 0, 0, 0, 0, 0, 0, 120]) && decide (r1 = 0) && decide (r2 = 0) && decide (r3 = false) && decide (r5 = []) && decide (r6 = []) && decide (r7 = [])) (some (o1)) none
  | _ => none
theorem declaw08_works_n0_ok (s : St) (x : Ilaw08_works_n0) (h : declaw08_works_n0 s = some x) : s = Slaw08_works_n0 x := by
  unfold declaw08_works_n0 at h
  split at h
  · replace h := cond_noneO h; obtain ⟨hg, h⟩ := h; simp only [Bool.and_eq_true, decide_eq_true_eq] at hg; simp only [hg]; cases h; rfl
  · cases h
def outlaw08_works_n0 : Ilaw08_works_n0 → (Ex → St → Ans) → Ylaw08_works_n0 → Ans := fun o1 K => unP fun t3_y => unP fun t4_y => unP fun t5_y => unP fun o0_3_y => unP fun o0_6_y => unP fun o1_y => unP fun o2_y o3_y => K (Ex.norm) { env := [(1, AV.ptr 0 0), (2, AV.str ([0, 0, 0, 0, 0, 0, 0, 0, 0, 0, 0, 0, 0, 0, 0, 0, 0, 0, 0, 0, 0, 0, 0, 0, 0, 0, 0, 0, 0, 0, 0, 0, 0, 0, 0, 0, 0, 0, 0, 0, 0, 0, 0, 0, 0, 0, 0, 0, 0, 0, 0, 0, 0, 0, 0, 0, 0, 0, 0, 0, 0, 0, 0, 120])), (3, AV.int IntKind.i64 t3_y), (4, AV.int IntKind.i64 t4_y), (5, AV.int IntKind.i64 t5_y)], stk := [[]], H := [AE.Obj.cells [AV.own 1, AV.map 2, AV.own 3, AV.int IntKind.i64 o0_3_y, AV.own 4, AV.int IntKind.i64 (0), AV.bool o0_6_y], Obj.arr Ty.str o1_y, Obj.mp IntKind.i64 Ty.str o2_y, Obj.arr (Ty.st (Ty.pair (Ty.int IntKind.i64) Ty.str)) o3_y, Obj.arr (Ty.int IntKind.i64) ([])], blk := 45056 }
def nodelaw08_works_n0 {β : Type} : Ilaw08_works_n0 → (Ylaw08_works_n0 → Option β) → Option β := fun o1 exit => (bindO (fnDdisk_Disk_Write ((1 : Int), [(0 : UInt8), (0 : UInt8), (0 : UInt8), (0 : UInt8), (0 : UInt8), (0 : UInt8), (0 : UInt8), (0 : UInt8), (0 : UInt8), (0 : UInt8), (0 : UInt8), (0 : UInt8), (0 : UInt8), (0 : UInt8), (0 : UInt8), (0 : UInt8), (0 : UInt8), (0 : UInt8), (0 : UInt8), (0 : UInt8), (0 : UInt8), (0 : UInt8), (0 : UInt8), (0 : UInt8), (0 : UInt8), (0 : UInt8), (0 : UInt8), (0 : UInt8), (0 : UInt8), (0 : UInt8), (0 : UInt8), (0 : UInt8), (0 : UInt8), (0 : UInt8), (0 : UInt8), (0 : UInt8), (0 : UInt8), (0 : UInt8), (0 : UInt8), (0 : UInt8), (0 : UInt8), (0 : UInt8), (0 : UInt8), (0 : UInt8), (0 : UInt8), (0 : UInt8), (0 : UInt8), (0 : UInt8), (0 : UInt8), (0 : UInt8), (0 : UInt8), (0 : UInt8), (0 : UInt8), (0 : UInt8), (0 : UInt8), (0 : UInt8), (0 : UInt8), (0 : UInt8), (0 : UInt8), (0 : UInt8), (0 : UInt8), (0 : UInt8), (0 : UInt8), (120 : UInt8)], (0 : Int), (0 : Int), false, o1, [], [], [])) (unP fun r => unP fun o0_3 => unP fun o0_6 => unP fun o2 o3 => (bindO (fnDdisk_Disk_Flush (o0_3, (0 : Int), o0_6, o1, o2, o3, [])) (Sum.elim (unP fun r_2 => unP fun o0_3_2 => unP fun o0_6_2 o1_2 => (bindO (fnDdisk_Disk_Write ((1 : Int), [(0 : UInt8), (0 : UInt8), (0 : UInt8), (0 : UInt8), (0 : UInt8), (0 : UInt8), (0 : UInt8), (0 : UInt8), (0 : UInt8), (0 : UInt8), (0 : UInt8), (0 : UInt8), (0 : UInt8), (0 : UInt8), (0 : UInt8), (0 : UInt8), (0 : UInt8), (0 : UInt8), (0 : UInt8), (0 : UInt8), (0 : UInt8), (0 : UInt8), (0 : UInt8), (0 : UInt8), (0 : UInt8), (0 : UInt8), (0 : UInt8), (0 : UInt8), (0 : UInt8), (0 : UInt8), (0 : UInt8), (0 : UInt8), (0 : UInt8), (0 : UInt8), (0 : UInt8), (0 : UInt8), (0 : UInt8), (0 : UInt8), (0 : UInt8), (0 : UInt8), (0 : UInt8), (0 : UInt8), (0 : UInt8), (0 : UInt8), (0 : UInt8), (0 : UInt8), (0 : UInt8), (0 : UInt8), (0 : UInt8), (0 : UInt8), (0 : UInt8), (0 : UInt8), (0 : UInt8), (0 : UInt8), (0 : UInt8), (0 : UInt8), (0 : UInt8), (0 : UInt8), (0 : UInt8), (0 : UInt8), (0 : UInt8), (0 : UInt8), (0 : UInt8), (0 : UInt8)], o0_3_2, (0 : Int), o0_6_2, o1_2, [], [], [])) (unP fun r_3 => unP fun o0_3_3 => unP fun o0_6_3 => unP fun o2_2 o3_2 => (exit (r, r_2, r_3, o0_3_3, o0_6_3, o1_2, o2_2, o3_2))))) (unP fun r_2 => unP fun o0_3_2 o0_6_2 => (bindO (fnDdisk_Disk_Write ((1 : Int), [(0 : UInt8), (0 : UInt8), (0 : UInt8), (0 : UInt8), (0 : UInt8), (0 : UInt8), (0 : UInt8), (0 : UInt8), (0 : UInt8), (0 : UInt8), (0 : UInt8), (0 : UInt8), (0 : UInt8), (0 : UInt8), (0 : UInt8), (0 : UInt8), (0 : UInt8), (0 : UInt8), (0 : UInt8), (0 : UInt8), (0 : UInt8), (0 : UInt8), (0 : UInt8), (0 : UInt8), (0 : UInt8), (0 : UInt8), (0 : UInt8), (0 : UInt8), (0 : UInt8), (0 : UInt8), (0 : UInt8), (0 : UInt8), (0 : UInt8), (0 : UInt8), (0 : UInt8), (0 : UInt8), (0 : UInt8), (0 : UInt8), (0 : UInt8), (0 : UInt8), (0 : UInt8), (0 : UInt8), (0 : UInt8), (0 : UInt8), (0 : UInt8), (0 : UInt8), (0 : UInt8), (0 : UInt8), (0 : UInt8), (0 : UInt8), (0 : UInt8), (0 : UInt8), (0 : UInt8), (0 : UInt8), (0 : UInt8), (0 : UInt8), (0 : UInt8), (0 : UInt8), (0 : UInt8), (0 : UInt8), (0 : UInt8), (0 : UInt8), (0 : UInt8), (0 : UInt8)], o0_3_2, (0 : Int), o0_6_2, o1, o2, o3, [])) (unP fun r_3 => unP fun o0_3_3 => unP fun o0_6_3 => unP fun o2_2 o3_2 => (exit (r, r_2, r_3, o0_3_3, o0_6_3, o1, o2_2, o3_2)))))))))
def nodeDlaw08_works_n0 (i : Ilaw08_works_n0) : Option Ylaw08_works_n0 := nodelaw08_works_n0 i some
theorem nodelaw08_works_n0_nat (i : Ilaw08_works_n0) (k : Ylaw08_works_n0 → Ans) : nodelaw08_works_n0 i k = bindO (nodeDlaw08_works_n0 i) k := by
  obtain z := i
  simp only [nodeDlaw08_works_n0, nodelaw08_works_n0, bindO_cond, bindO_assoc, bindO_none, bindO_pure, bindO_elim, bindO_unP]
noncomputable def nodeXlaw08_works_n0 {β : Type} : Ilaw08_works_n0 → (Ylaw08_works_n0 → Option β) → Option β := fun o1 exit => (agree (bindO (fnDdisk_Disk_Write ((1 : Int), [(0 : UInt8), (0 : UInt8), (0 : UInt8), (0 : UInt8), (0 : UInt8), (0 : UInt8), (0 : UInt8), (0 : UInt8), (0 : UInt8), (0 : UInt8), (0 : UInt8), (0 : UInt8), (0 : UInt8), (0 : UInt8), (0 : UInt8), (0 : UInt8), (0 : UInt8), (0 : UInt8), (0 : UInt8), (0 : UInt8), (0 : UInt8), (0 : UInt8), (0 : UInt8), (0 : UInt8), (0 : UInt8), (0 : UInt8), (0 : UInt8), (0 : UInt8), (0 : UInt8), (0 : UInt8), (0 : UInt8), (0 : UInt8), (0 : UInt8), (0 : UInt8), (0 : UInt8), (0 : UInt8), (0 : UInt8), (0 : UInt8), (0 : UInt8), (0 : UInt8), (0 : UInt8), (0 : UInt8), (0 : UInt8), (0 : UInt8), (0 : UInt8), (0 : UInt8), (0 : UInt8), (0 : UInt8), (0 : UInt8), (0 : UInt8), (0 : UInt8), (0 : UInt8), (0 : UInt8), (0 : UInt8), (0 : UInt8), (0 : UInt8), (0 : UInt8), (0 : UInt8), (0 : UInt8), (0 : UInt8), (0 : UInt8), (0 : UInt8), (0 : UInt8), (120 : UInt8)], (0 : Int), (0 : Int), false, o1, [], [], [])) (unP fun r => unP fun o0_3 => unP fun o0_6 => unP fun o2 o3 => (agree (bindO (fnDdisk_Disk_Flush (o0_3, (0 : Int), o0_6, o1, o2, o3, [])) (Sum.elim (unP fun r_2 => unP fun o0_3_2 => unP fun o0_6_2 o1_2 => (bindO (fnDdisk_Disk_Write ((1 : Int), [(0 : UInt8), (0 : UInt8), (0 : UInt8), (0 : UInt8), (0 : UInt8), (0 : UInt8), (0 : UInt8), (0 : UInt8), (0 : UInt8), (0 : UInt8), (0 : UInt8), (0 : UInt8), (0 : UInt8), (0 : UInt8), (0 : UInt8), (0 : UInt8), (0 : UInt8), (0 : UInt8), (0 : UInt8), (0 : UInt8), (0 : UInt8), (0 : UInt8), (0 : UInt8), (0 : UInt8), (0 : UInt8), (0 : UInt8), (0 : UInt8), (0 : UInt8), (0 : UInt8), (0 : UInt8), (0 : UInt8), (0 : UInt8), (0 : UInt8), (0 : UInt8), (0 : UInt8), (0 : UInt8), (0 : UInt8), (0 : UInt8), (0 : UInt8), (0 : UInt8), (0 : UInt8), (0 : UInt8), (0 : UInt8), (0 : UInt8), (0 : UInt8), (0 : UInt8), (0 : UInt8), (0 : UInt8), (0 : UInt8), (0 : UInt8), (0 : UInt8), (0 : UInt8), (0 : UInt8), (0 : UInt8), (0 : UInt8), (0 : UInt8), (0 : UInt8), (0 : UInt8), (0 : UInt8), (0 : UInt8), (0 : UInt8), (0 : UInt8), (0 : UInt8), (0 : UInt8)], o0_3_2, (0 : Int), o0_6_2, o1_2, [], [], [])) (unP fun r_3 => unP fun o0_3_3 => unP fun o0_6_3 => unP fun o2_2 o3_2 => (exit (r, r_2, r_3, o0_3_3, o0_6_3, o1_2, o2_2, o3_2))))) (unP fun r_2 => unP fun o0_3_2 o0_6_2 => (bindO (fnDdisk_Disk_Write ((1 : Int), [(0 : UInt8), (0 : UInt8), (0 : UInt8), (0 : UInt8), (0 : UInt8), (0 : UInt8), (0 : UInt8), (0 : UInt8), (0 : UInt8), (0 : UInt8), (0 : UInt8), (0 : UInt8), (0 : UInt8), (0 : UInt8), (0 : UInt8), (0 : UInt8), (0 : UInt8), (0 : UInt8), (0 : UInt8), (0 : UInt8), (0 : UInt8), (0 : UInt8), (0 : UInt8), (0 : UInt8), (0 : UInt8), (0 : UInt8), (0 : UInt8), (0 : UInt8), (0 : UInt8), (0 : UInt8), (0 : UInt8), (0 : UInt8), (0 : UInt8), (0 : UInt8), (0 : UInt8), (0 : UInt8), (0 : UInt8), (0 : UInt8), (0 : UInt8), (0 : UInt8), (0 : UInt8), (0 : UInt8), (0 : UInt8), (0 : UInt8), (0 : UInt8), (0 : UInt8), (0 : UInt8), (0 : UInt8), (0 : UInt8), (0 : UInt8), (0 : UInt8), (0 : UInt8), (0 : UInt8), (0 : UInt8), (0 : UInt8), (0 : UInt8), (0 : UInt8), (0 : UInt8), (0 : UInt8), (0 : UInt8), (0 : UInt8), (0 : UInt8), (0 : UInt8), (0 : UInt8)], o0_3_2, (0 : Int), o0_6_2, o1, o2, o3, [])) (unP fun r_3 => unP fun o0_3_3 => unP fun o0_6_3 => unP fun o2_2 o3_2 => (exit (r, r_2, r_3, o0_3_3, o0_6_3, o1, o2_2, o3_2))))))) (agree (bindO (fnDdisk_Disk_Flush (o0_3, (0 : Int), o0_6, o1, o2, o3, [])) (Sum.elim (unP fun r_2 => unP fun o0_3_2 => unP fun o0_6_2 o1_2 => (bindO (fnDdisk_Disk_Write ((1 : Int), [(0 : UInt8), (0 : UInt8), (0 : UInt8), (0 : UInt8), (0 : UInt8), (0 : UInt8), (0 : UInt8), (0 : UInt8), (0 : UInt8), (0 : UInt8), (0 : UInt8), (0 : UInt8), (0 : UInt8), (0 : UInt8), (0 : UInt8), (0 : UInt8), (0 : UInt8), (0 : UInt8), (0 : UInt8), (0 : UInt8), (0 : UInt8), (0 : UInt8), (0 : UInt8), (0 : UInt8), (0 : UInt8), (0 : UInt8), (0 : UInt8), (0 : UInt8), (0 : UInt8), (0 : UInt8), (0 : UInt8), (0 : UInt8), (0 : UInt8), (0 : UInt8), (0 : UInt8), (0 : UInt8), (0 : UInt8), (0 : UInt8), (0 : UInt8), (0 : UInt8), (0 : UInt8), (0 : UInt8), (0 : UInt8), (0 : UInt8), (0 : UInt8), (0 : UInt8), (0 : UInt8), (0 : UInt8), (0 : UInt8), (0 : UInt8), (0 : UInt8), (0 : UInt8), (0 : UInt8), (0 : UInt8), (0 : UInt8), (0 : UInt8), (0 : UInt8), (0 : UInt8), (0 : UInt8), (0 : UInt8), (0 : UInt8), (0 : UInt8), (0 : UInt8), (0 : UInt8)], o0_3_2, (0 : Int), o0_6_2, o1_2, [], [], [])) (unP fun r_3 => unP fun o0_3_3 => unP fun o0_6_3 => unP fun o2_2 o3_2 => (exit (r, r_2, r_3, o0_3_3, o0_6_3, o1_2, o2_2, o3_2))))) (unP fun r_2 => unP fun o0_3_2 o0_6_2 => (bindO (fnDdisk_Disk_Write ((1 : Int), [(0 : UInt8), (0 : UInt8), (0 : UInt8), (0 : UInt8), (0 : UInt8), (0 : UInt8), (0 : UInt8), (0 : UInt8), (0 : UInt8), (0 : UInt8), (0 : UInt8), (0 : UInt8), (0 : UInt8), (0 : UInt8), (0 : UInt8), (0 : UInt8), (0 : UInt8), (0 : UInt8), (0 : UInt8), (0 : UInt8), (0 : UInt8), (0 : UInt8), (0 : UInt8), (0 : UInt8), (0 : UInt8), (0 : UInt8), (0 : UInt8), (0 : UInt8), (0 : UInt8), (0 : UInt8), (0 : UInt8), (0 : UInt8), (0 : UInt8), (0 : UInt8), (0 : UInt8), (0 : UInt8), (0 : UInt8), (0 : UInt8), (0 : UInt8), (0 : UInt8), (0 : UInt8), (0 : UInt8), (0 : UInt8), (0 : UInt8), (0 : UInt8), (0 : UInt8), (0 : UInt8), (0 : UInt8), (0 : UInt8), (0 : UInt8), (0 : UInt8), (0 : UInt8), (0 : UInt8), (0 : UInt8), (0 : UInt8), (0 : UInt8), (0 : UInt8), (0 : UInt8), (0 : UInt8), (0 : UInt8), (0 : UInt8), (0 : UInt8), (0 : UInt8), (0 : UInt8)], o0_3_2, (0 : Int), o0_6_2, o1, o2, o3, [])) (unP fun r_3 => unP fun o0_3_3 => unP fun o0_6_3 => unP fun o2_2 o3_2 => (exit (r, r_2, r_3, o0_3_3, o0_6_3, o1, o2_2, o3_2))))))) (bindO (fnDdisk_Disk_Flush (o0_3, (0 : Int), o0_6, o1, o2, o3, [])) (Sum.elim (unP fun r_2 => unP fun o0_3_2 => unP fun o0_6_2 o1_2 => (bindO (fnDdisk_Disk_Write ((1 : Int), [(0 : UInt8), (0 : UInt8), (0 : UInt8), (0 : UInt8), (0 : UInt8), (0 : UInt8), (0 : UInt8), (0 : UInt8), (0 : UInt8), (0 : UInt8), (0 : UInt8), (0 : UInt8), (0 : UInt8), (0 : UInt8), (0 : UInt8), (0 : UInt8), (0 : UInt8), (0 : UInt8), (0 : UInt8), (0 : UInt8), (0 : UInt8), (0 : UInt8), (0 : UInt8), (0 : UInt8), (0 : UInt8), (0 : UInt8), (0 : UInt8), (0 : UInt8), (0 : UInt8), (0 : UInt8), (0 : UInt8), (0 : UInt8), (0 : UInt8), (0 : UInt8), (0 : UInt8), (0 : UInt8), (0 : UInt8), (0 : UInt8), (0 : UInt8), (0 : UInt8), (0 : UInt8), (0 : UInt8), (0 : UInt8), (0 : UInt8), (0 : UInt8), (0 : UInt8), (0 : UInt8), (0 : UInt8), (0 : UInt8), (0 : UInt8), (0 : UInt8), (0 : UInt8), (0 : UInt8), (0 : UInt8), (0 : UInt8), (0 : UInt8), (0 : UInt8), (0 : UInt8), (0 : UInt8), (0 : UInt8), (0 : UInt8), (0 : UInt8), (0 : UInt8), (0 : UInt8)], o0_3_2, (0 : Int), o0_6_2, o1_2, [], [], [])) (unP fun r_3 => unP fun o0_3_3 => unP fun o0_6_3 => unP fun o2_2 o3_2 => (exit (r, r_2, r_3, o0_3_3, o0_6_3, o1_2, o2_2, o3_2))))) (unP fun r_2 => unP fun o0_3_2 o0_6_2 => (bindO (fnDdisk_Disk_Write ((1 : Int), [(0 : UInt8), (0 : UInt8), (0 : UInt8), (0 : UInt8), (0 : UInt8), (0 : UInt8), (0 : UInt8), (0 : UInt8), (0 : UInt8), (0 : UInt8), (0 : UInt8), (0 : UInt8), (0 : UInt8), (0 : UInt8), (0 : UInt8), (0 : UInt8), (0 : UInt8), (0 : UInt8), (0 : UInt8), (0 : UInt8), (0 : UInt8), (0 : UInt8), (0 : UInt8), (0 : UInt8), (0 : UInt8), (0 : UInt8), (0 : UInt8), (0 : UInt8), (0 : UInt8), (0 : UInt8), (0 : UInt8), (0 : UInt8), (0 : UInt8), (0 : UInt8), (0 : UInt8), (0 : UInt8), (0 : UInt8), (0 : UInt8), (0 : UInt8), (0 : UInt8), (0 : UInt8), (0 : UInt8), (0 : UInt8), (0 : UInt8), (0 : UInt8), (0 : UInt8), (0 : UInt8), (0 : UInt8), (0 : UInt8), (0 : UInt8), (0 : UInt8), (0 : UInt8), (0 : UInt8), (0 : UInt8), (0 : UInt8), (0 : UInt8), (0 : UInt8), (0 : UInt8), (0 : UInt8), (0 : UInt8), (0 : UInt8), (0 : UInt8), (0 : UInt8), (0 : UInt8)], o0_3_2, (0 : Int), o0_6_2, o1, o2, o3, [])) (unP fun r_3 => unP fun o0_3_3 => unP fun o0_6_3 => unP fun o2_2 o3_2 => (exit (r, r_2, r_3, o0_3_3, o0_6_3, o1, o2_2, o3_2))))))))))) (agree (bindO (fnDdisk_Disk_Write ((1 : Int), [(0 : UInt8), (0 : UInt8), (0 : UInt8), (0 : UInt8), (0 : UInt8), (0 : UInt8), (0 : UInt8), (0 : UInt8), (0 : UInt8), (0 : UInt8), (0 : UInt8), (0 : UInt8), (0 : UInt8), (0 : UInt8), (0 : UInt8), (0 : UInt8), (0 : UInt8), (0 : UInt8), (0 : UInt8), (0 : UInt8), (0 : UInt8), (0 : UInt8), (0 : UInt8), (0 : UInt8), (0 : UInt8), (0 : UInt8), (0 : UInt8), (0 : UInt8), (0 : UInt8), (0 : UInt8), (0 : UInt8), (0 : UInt8), (0 : UInt8), (0 : UInt8), (0 : UInt8), (0 : UInt8), (0 : UInt8), (0 : UInt8), (0 : UInt8), (0 : UInt8), (0 : UInt8), (0 : UInt8), (0 : UInt8), (0 : UInt8), (0 : UInt8), (0 : UInt8), (0 : UInt8), (0 : UInt8), (0 : UInt8), (0 : UInt8), (0 : UInt8), (0 : UInt8), (0 : UInt8), (0 : UInt8), (0 : UInt8), (0 : UInt8), (0 : UInt8), (0 : UInt8), (0 : UInt8), (0 : UInt8), (0 : UInt8), (0 : UInt8), (0 : UInt8), (120 : UInt8)], (0 : Int), (0 : Int), false, o1, [], [], [])) (unP fun r => unP fun o0_3 => unP fun o0_6 => unP fun o2 o3 => (agree (bindO (fnDdisk_Disk_Flush (o0_3, (0 : Int), o0_6, o1, o2, o3, [])) (Sum.elim (unP fun r_2 => unP fun o0_3_2 => unP fun o0_6_2 o1_2 => (bindO (fnDdisk_Disk_Write ((1 : Int), [(0 : UInt8), (0 : UInt8), (0 : UInt8), (0 : UInt8), (0 : UInt8), (0 : UInt8), (0 : UInt8), (0 : UInt8), (0 : UInt8), (0 : UInt8), (0 : UInt8), (0 : UInt8), (0 : UInt8), (0 : UInt8), (0 : UInt8), (0 : UInt8), (0 : UInt8), (0 : UInt8), (0 : UInt8), (0 : UInt8), (0 : UInt8), (0 : UInt8), (0 : UInt8), (0 : UInt8), (0 : UInt8), (0 : UInt8), (0 : UInt8), (0 : UInt8), (0 : UInt8), (0 : UInt8), (0 : UInt8), (0 : UInt8), (0 : UInt8), (0 : UInt8), (0 : UInt8), (0 : UInt8), (0 : UInt8), (0 : UInt8), (0 : UInt8), (0 : UInt8), (0 : UInt8), (0 : UInt8), (0 : UInt8), (0 : UInt8), (0 : UInt8), (0 : UInt8), (0 : UInt8), (0 : UInt8), (0 : UInt8), (0 : UInt8), (0 : UInt8), (0 : UInt8), (0 : UInt8), (0 : UInt8), (0 : UInt8), (0 : UInt8), (0 : UInt8), (0 : UInt8), (0 : UInt8), (0 : UInt8), (0 : UInt8), (0 : UInt8), (0 : UInt8), (0 : UInt8)], o0_3_2, (0 : Int), o0_6_2, o1_2, [], [], [])) (unP fun r_3 => unP fun o0_3_3 => unP fun o0_6_3 => unP fun o2_2 o3_2 => (exit (r, r_2, r_3, o0_3_3, o0_6_3, o1_2, o2_2, o3_2))))) (unP fun r_2 => unP fun o0_3_2 o0_6_2 => (bindO (fnDdisk_Disk_Write ((1 : Int), [(0 : UInt8), (0 : UInt8), (0 : UInt8), (0 : UInt8), (0 : UInt8), (0 : UInt8), (0 : UInt8), (0 : UInt8), (0 : UInt8), (0 : UInt8), (0 : UInt8), (0 : UInt8), (0 : UInt8), (0 : UInt8), (0 : UInt8), (0 : UInt8), (0 : UInt8), (0 : UInt8), (0 : UInt8), (0 : UInt8), (0 : UInt8), (0 : UInt8), (0 : UInt8), (0 : UInt8), (0 : UInt8), (0 : UInt8), (0 : UInt8), (0 : UInt8), (0 : UInt8), (0 : UInt8), (0 : UInt8), (0 : UInt8), (0 : UInt8), (0 : UInt8), (0 : UInt8), (0 : UInt8), (0 : UInt8), (0 : UInt8), (0 : UInt8), (0 : UInt8), (0 : UInt8), (0 : UInt8), (0 : UInt8), (0 : UInt8), (0 : UInt8), (0 : UInt8), (0 : UInt8), (0 : UInt8), (0 : UInt8), (0 : UInt8), (0 : UInt8), (0 : UInt8), (0 : UInt8), (0 : UInt8), (0 : UInt8), (0 : UInt8), (0 : UInt8), (0 : UInt8), (0 : UInt8), (0 : UInt8), (0 : UInt8), (0 : UInt8), (0 : UInt8), (0 : UInt8)], o0_3_2, (0 : Int), o0_6_2, o1, o2, o3, [])) (unP fun r_3 => unP fun o0_3_3 => unP fun o0_6_3 => unP fun o2_2 o3_2 => (exit (r, r_2, r_3, o0_3_3, o0_6_3, o1, o2_2, o3_2))))))) (bindO (fnDdisk_Disk_Flush (o0_3, (0 : Int), o0_6, o1, o2, o3, [])) (Sum.elim (unP fun r_2 => unP fun o0_3_2 => unP fun o0_6_2 o1_2 => (bindO (fnDdisk_Disk_Write ((1 : Int), [(0 : UInt8), (0 : UInt8), (0 : UInt8), (0 : UInt8), (0 : UInt8), (0 : UInt8), (0 : UInt8), (0 : UInt8), (0 : UInt8), (0 : UInt8), (0 : UInt8), (0 : UInt8), (0 : UInt8), (0 : UInt8), (0 : UInt8), (0 : UInt8), (0 : UInt8), (0 : UInt8), (0 : UInt8), (0 : UInt8), (0 : UInt8), (0 : UInt8), (0 : UInt8), (0 : UInt8), (0 : UInt8), (0 : UInt8), (0 : UInt8), (0 : UInt8), (0 : UInt8), (0 : UInt8), (0 : UInt8), (0 : UInt8), (0 : UInt8), (0 : UInt8), (0 : UInt8), (0 : UInt8), (0 : UInt8), (0 : UInt8), (0 : UInt8), (0 : UInt8), (0 : UInt8), (0 : UInt8), (0 : UInt8), (0 : UInt8), (0 : UInt8), (0 : UInt8), (0 : UInt8), (0 : UInt8), (0 : UInt8), (0 : UInt8), (0 : UInt8), (0 : UInt8), (0 : UInt8), (0 : UInt8), (0 : UInt8), (0 : UInt8), (0 : UInt8), (0 : UInt8), (0 : UInt8), (0 : UInt8), (0 : UInt8), (0 : UInt8), (0 : UInt8), (0 : UInt8)], o0_3_2, (0 : Int), o0_6_2, o1_2, [], [], [])) (unP fun r_3 => unP fun o0_3_3 => unP fun o0_6_3 => unP fun o2_2 o3_2 => (exit (r, r_2, r_3, o0_3_3, o0_6_3, o1_2, o2_2, o3_2))))) (unP fun r_2 => unP fun o0_3_2 o0_6_2 => (bindO (fnDdisk_Disk_Write ((1 : Int), [(0 : UInt8), (0 : UInt8), (0 : UInt8), (0 : UInt8), (0 : UInt8), (0 : UInt8), (0 : UInt8), (0 : UInt8), (0 : UInt8), (0 : UInt8), (0 : UInt8), (0 : UInt8), (0 : UInt8), (0 : UInt8), (0 : UInt8), (0 : UInt8), (0 : UInt8), (0 : UInt8), (0 : UInt8), (0 : UInt8), (0 : UInt8), (0 : UInt8), (0 : UInt8), (0 : UInt8), (0 : UInt8), (0 : UInt8), (0 : UInt8), (0 : UInt8), (0 : UInt8), (0 : UInt8), (0 : UInt8), (0 : UInt8), (0 : UInt8), (0 : UInt8), (0 : UInt8), (0 : UInt8), (0 : UInt8), (0 : UInt8), (0 : UInt8), (0 : UInt8), (0 : UInt8), (0 : UInt8), (0 : UInt8), (0 : UInt8), (0 : UInt8), (0 : UInt8), (0 : UInt8), (0 : UInt8), (0 : UInt8), (0 : UInt8), (0 : UInt8), (0 : UInt8), (0 : UInt8), (0 : UInt8), (0 : UInt8), (0 : UInt8), (0 : UInt8), (0 : UInt8), (0 : UInt8), (0 : UInt8), (0 : UInt8), (0 : UInt8), (0 : UInt8), (0 : UInt8)], o0_3_2, (0 : Int), o0_6_2, o1, o2, o3, [])) (unP fun r_3 => unP fun o0_3_3 => unP fun o0_6_3 => unP fun o2_2 o3_2 => (exit (r, r_2, r_3, o0_3_3, o0_6_3, o1, o2_2, o3_2)))))))))) (bindO (fnDdisk_Disk_Write ((1 : Int), [(0 : UInt8), (0 : UInt8), (0 : UInt8), (0 : UInt8), (0 : UInt8), (0 : UInt8), (0 : UInt8), (0 : UInt8), (0 : UInt8), (0 : UInt8), (0 : UInt8), (0 : UInt8), (0 : UInt8), (0 : UInt8), (0 : UInt8), (0 : UInt8), (0 : UInt8), (0 : UInt8), (0 : UInt8), (0 : UInt8), (0 : UInt8), (0 : UInt8), (0 : UInt8), (0 : UInt8), (0 : UInt8), (0 : UInt8), (0 : UInt8), (0 : UInt8), (0 : UInt8), (0 : UInt8), (0 : UInt8), (0 : UInt8), (0 : UInt8), (0 : UInt8), (0 : UInt8), (0 : UInt8), (0 : UInt8), (0 : UInt8), (0 : UInt8), (0 : UInt8), (0 : UInt8), (0 : UInt8), (0 : UInt8), (0 : UInt8), (0 : UInt8), (0 : UInt8), (0 : UInt8), (0 : UInt8), (0 : UInt8), (0 : UInt8), (0 : UInt8), (0 : UInt8), (0 : UInt8), (0 : UInt8), (0 : UInt8), (0 : UInt8), (0 : UInt8), (0 : UInt8), (0 : UInt8), (0 : UInt8), (0 : UInt8), (0 : UInt8), (0 : UInt8), (120 : UInt8)], (0 : Int), (0 : Int), false, o1, [], [], [])) (unP fun r => unP fun o0_3 => unP fun o0_6 => unP fun o2 o3 => (bindO (fnDdisk_Disk_Flush (o0_3, (0 : Int), o0_6, o1, o2, o3, [])) (Sum.elim (unP fun r_2 => unP fun o0_3_2 => unP fun o0_6_2 o1_2 => (bindO (fnDdisk_Disk_Write ((1 : Int), [(0 : UInt8), (0 : UInt8), (0 : UInt8), (0 : UInt8), (0 : UInt8), (0 : UInt8), (0 : UInt8), (0 : UInt8), (0 : UInt8), (0 : UInt8), (0 : UInt8), (0 : UInt8), (0 : UInt8), (0 : UInt8), (0 : UInt8), (0 : UInt8), (0 : UInt8), (0 : UInt8), (0 : UInt8), (0 : UInt8), (0 : UInt8), (0 : UInt8), (0 : UInt8), (0 : UInt8), (0 : UInt8), (0 : UInt8), (0 : UInt8), (0 : UInt8), (0 : UInt8), (0 : UInt8), (0 : UInt8), (0 : UInt8), (0 : UInt8), (0 : UInt8), (0 : UInt8), (0 : UInt8), (0 : UInt8), (0 : UInt8), (0 : UInt8), (0 : UInt8), (0 : UInt8), (0 : UInt8), (0 : UInt8), (0 : UInt8), (0 : UInt8), (0 : UInt8), (0 : UInt8), (0 : UInt8), (0 : UInt8), (0 : UInt8), (0 : UInt8), (0 : UInt8), (0 : UInt8), (0 : UInt8), (0 : UInt8), (0 : UInt8), (0 : UInt8), (0 : UInt8), (0 : UInt8), (0 : UInt8), (0 : UInt8), (0 : UInt8), (0 : UInt8), (0 : UInt8)], o0_3_2, (0 : Int), o0_6_2, o1_2, [], [], [])) (unP fun r_3 => unP fun o0_3_3 => unP fun o0_6_3 => unP fun o2_2 o3_2 => (exit (r, r_2, r_3, o0_3_3, o0_6_3, o1_2, o2_2, o3_2))))) (unP fun r_2 => unP fun o0_3_2 o0_6_2 => (bindO (fnDdisk_Disk_Write ((1 : Int), [(0 : UInt8), (0 : UInt8), (0 : UInt8), (0 : UInt8), (0 : UInt8), (0 : UInt8), (0 : UInt8), (0 : UInt8), (0 : UInt8), (0 : UInt8), (0 : UInt8), (0 : UInt8), (0 : UInt8), (0 : UInt8), (0 : UInt8), (0 : UInt8), (0 : UInt8), (0 : UInt8), (0 : UInt8), (0 : UInt8), (0 : UInt8), (0 : UInt8), (0 : UInt8), (0 : UInt8), (0 : UInt8), (0 : UInt8), (0 : UInt8), (0 : UInt8), (0 : UInt8), (0 : UInt8), (0 : UInt8), (0 : UInt8), (0 : UInt8), (0 : UInt8), (0 : UInt8), (0 : UInt8), (0 : UInt8), (0 : UInt8), (0 : UInt8), (0 : UInt8), (0 : UInt8), (0 : UInt8), (0 : UInt8), (0 : UInt8), (0 : UInt8), (0 : UInt8), (0 : UInt8), (0 : UInt8), (0 : UInt8), (0 : UInt8), (0 : UInt8), (0 : UInt8), (0 : UInt8), (0 : UInt8), (0 : UInt8), (0 : UInt8), (0 : UInt8), (0 : UInt8), (0 : UInt8), (0 : UInt8), (0 : UInt8), (0 : UInt8), (0 : UInt8), (0 : UInt8)], o0_3_2, (0 : Int), o0_6_2, o1, o2, o3, [])) (unP fun r_3 => unP fun o0_3_3 => unP fun o0_6_3 => unP fun o2_2 o3_2 => (exit (r, r_2, r_3, o0_3_3, o0_6_3, o1, o2_2, o3_2)))))))))))
theorem nodeXlaw08_works_n0_eq : ∀ (i : Ilaw08_works_n0) (exit : Ylaw08_works_n0 → Ans), nodeXlaw08_works_n0 i exit = nodelaw08_works_n0 i exit := by
  rintro z exit
  simp only [nodeXlaw08_works_n0, nodelaw08_works_n0, agree_self]
theorem nodelaw08_works_n0_ok (i : Ilaw08_works_n0) (K : Ex → St → Ans) : codeI Try.tab envlaw08_works noHint (codeD Try.tab envlaw08_works noHint 0 64) 70 57 annLlaw08_works_n0 Llaw08_works_n0 (weakP 0 (exk [1, 2, 3, 4, 5] [0] []) K) (Slaw08_works_n0 i) = nodelaw08_works_n0 i (outlaw08_works_n0 i K) := (show _ = nodeXlaw08_works_n0 i _ from by kernel_rfl).trans (nodeXlaw08_works_n0_eq _ _)
theorem GNlaw08_works_n0_ok : CSum Try.prog 57 Llaw08_works_n0 (sumN declaw08_works_n0 nodeDlaw08_works_n0 outlaw08_works_n0) := csum_node mixed tabOk envlaw08_worksOk 0 (exk [1, 2, 3, 4, 5] [0] []) annLlaw08_works_n0_ok declaw08_works_n0_ok nodelaw08_works_n0_ok nodelaw08_works_n0_nat
noncomputable def Glaw08_works_n0 : (Ex → St → Ans) → St → Ans := (sumN declaw08_works_n0 nodeDlaw08_works_n0 outlaw08_works_n0)
theorem Glaw08_works_n0_ok : CSum Try.prog 57 Llaw08_works_n0 Glaw08_works_n0 := GNlaw08_works_n0_ok
noncomputable def annlaw08_works : Ann := (.seq .none (.seq .none (.seq .none (.seq (.cut 0 [1, 2] Glaw08_works_n0) (.seq .none (.seq .none (.seq (.cut 0 [1, 2, 3, 4, 5, 6, 7] Glaw08_works_n1) .none)))))))
theorem annlaw08_works_ok : AnnOk Try.prog 57 blaw08_works annlaw08_works := ⟨(annOk_none _ _ _), ⟨(annOk_none _ _ _), ⟨(annOk_none _ _ _), ⟨Glaw08_works_n0_ok, ⟨(annOk_none _ _ _), ⟨(annOk_none _ _ _), ⟨Glaw08_works_n1_ok, (annOk_none _ _ _)⟩⟩⟩⟩⟩⟩⟩
abbrev Alaw08_works := Unit
abbrev Ylaw08_works := (Bool)
def fnlaw08_works {β : Type} : Alaw08_works → (Ylaw08_works → Option β) → Option β := fun _ exit => (bindO (fnDdisk_New ((2 : Int))) fun o1 => (bindO (nodeDlaw08_works_n0 (o1)) (unP fun t3 => unP fun t4 => unP fun t5 => unP fun o0_3 => unP fun o0_6 => unP fun o1_2 => unP fun o2 o3 => (bindO (fnDdisk_Disk_Restart (o0_3, (0 : Int), o0_6, o1_2, o2, o3, [])) fun o1_3 => (bindO (fnDdisk_Disk_Read ((1 : Int), o0_3, (0 : Int), false, o1_3, [], [], [])) (unP fun r_0 => unP fun r_1 => unP fun o0_3_2 o0_6_2 => (bindO (nodeDlaw08_works_n1 (t3, t4, t5, r_0, r_1, o0_3_2, o0_6_2, o1_3)) fun t0 => (exit (t0)))))))))
def fnDlaw08_works (a : Alaw08_works) : Option Ylaw08_works := fnlaw08_works a some
theorem fnlaw08_works_nat (a : Alaw08_works) (k : Ylaw08_works → Ans) : fnlaw08_works a k = bindO (fnDlaw08_works a) k := by
  obtain z := a
  simp only [fnDlaw08_works, fnlaw08_works, bindO_cond, bindO_assoc, bindO_none, bindO_pure, bindO_elim, bindO_unP]
def argslaw08_works : Alaw08_works → List AV := fun _ => []
def decAlaw08_works (l : List AV) : Option Alaw08_works := match l with
  | [] => some ()
  | _ => none
theorem decAlaw08_works_ok (l : List AV) (a : Alaw08_works) (h : decAlaw08_works l = some a) : l = argslaw08_works a := by
  unfold decAlaw08_works at h
  split at h
  · cases h; rfl
  · cases h
def rendlaw08_works : Alaw08_works → Ylaw08_works → AV := fun _ => fun r_y => AV.bool r_y
theorem rendlaw08_works_ok : ∀ (a : Alaw08_works) (y : Ylaw08_works), (rendlaw08_works a y).closed1 = true := by
  rintro z y <;> first | rfl | exact Empty.elim y
theorem fnlaw08_works_ok (a : Alaw08_works) : fnE Try.tab envlaw08_works noHint 0 70 11 Try.f11.ntmps Try.f11.results.toList annlaw08_works blaw08_works (argslaw08_works a) [] (fun v _ => some (v, [])) = fnlaw08_works a (fun y => some (rendlaw08_works a y, [])) := by kernel_rfl
def vFlaw08_works (a : Alaw08_works) (K : AV → Ans) : Ans := bindO (fnDlaw08_works a) fun y => K (rendlaw08_works a y)
def Flaw08_works : List AV → (AV → Ans) → Ans := fun l K => bindO (decAlaw08_works l) fun a => vFlaw08_works a K
theorem Flaw08_works_ok : PureOk Try.prog 11 Flaw08_works := pure_mkD (hint := noHint) (d := 0) (n := 70) mixed tabOk envlaw08_worksOk Try.func11 (bodySome (by kernel_rfl)) (by decide +kernel) annlaw08_works_ok decAlaw08_works_ok fnlaw08_works_ok fnlaw08_works_nat rendlaw08_works_ok
--@ disk_Disk_Waits
noncomputable def envdisk_Disk_Waits : Env := []
theorem envdisk_Disk_WaitsOk : EnvOk Try.prog envdisk_Disk_Waits := EnvOk.nil
noncomputable def bdisk_Disk_Waits : Code := Try.f15.body.getD .skip
noncomputable def anndisk_Disk_Waits : Ann := .none
theorem anndisk_Disk_Waits_ok : AnnOk Try.prog 10 bdisk_Disk_Waits anndisk_Disk_Waits := (annOk_none _ _ _)
abbrev Adisk_Disk_Waits := (Int) × (Int) × (Bool) × (List (List UInt8)) × (List (Int × List UInt8)) × (List (Int × List UInt8)) × (List Int)
abbrev Ydisk_Disk_Waits := (Int)
def fndisk_Disk_Waits {β : Type} : Adisk_Disk_Waits → (Ydisk_Disk_Waits → Option β) → Option β := fun (o0_3, o0_5, o0_6, o1, o2, o3, o4) exit => (exit ((↑(List.length o3) : Int)))
def fnDdisk_Disk_Waits (a : Adisk_Disk_Waits) : Option Ydisk_Disk_Waits := fndisk_Disk_Waits a some
theorem fndisk_Disk_Waits_nat (a : Adisk_Disk_Waits) (k : Ydisk_Disk_Waits → Ans) : fndisk_Disk_Waits a k = bindO (fnDdisk_Disk_Waits a) k := by
  obtain ⟨o0_3, o0_5, o0_6, o1, o2, o3, o4⟩ := a
  simp only [fnDdisk_Disk_Waits, fndisk_Disk_Waits, bindO_cond, bindO_assoc, bindO_none, bindO_pure, bindO_elim, bindO_unP]
def argsdisk_Disk_Waits : Adisk_Disk_Waits → List AV × List AE.Obj := fun (o0_3, o0_5, o0_6, o1, o2, o3, o4) => ([AV.ptr 0 0], [AE.Obj.cells [AV.own 1, AV.map 2, AV.own 3, AV.int IntKind.i64 o0_3, AV.own 4, AV.int IntKind.i64 o0_5, AV.bool o0_6], Obj.arr Ty.str o1, Obj.mp IntKind.i64 Ty.str o2, Obj.arr (Ty.st (Ty.pair (Ty.int IntKind.i64) Ty.str)) o3, Obj.arr (Ty.int IntKind.i64) o4])
def decAdisk_Disk_Waits (l : List AV) (H : List AE.Obj) : Option Adisk_Disk_Waits := match l, H with
  | [AV.ptr 0 0], [AE.Obj.cells [AV.own 1, AV.map 2, AV.own 3, AV.int IntKind.i64 o0_3, AV.own 4, AV.int IntKind.i64 o0_5, AV.bool o0_6], Obj.arr Ty.str o1, Obj.mp IntKind.i64 Ty.str o2, Obj.arr (Ty.st (Ty.pair (Ty.int IntKind.i64) Ty.str)) o3, Obj.arr (Ty.int IntKind.i64) o4] => some (o0_3, o0_5, o0_6, o1, o2, o3, o4)
  | _, _ => none
theorem decAdisk_Disk_Waits_ok (l : List AV) (H : List AE.Obj) (a : Adisk_Disk_Waits) (h : decAdisk_Disk_Waits l H = some a) : (l, H) = argsdisk_Disk_Waits a := by
  unfold decAdisk_Disk_Waits at h
  split at h
  · cases h; rfl
  · cases h
def outdisk_Disk_Waits : Adisk_Disk_Waits → (AV → List AE.Obj → Ans) → Ydisk_Disk_Waits → Ans := fun (o0_3, o0_5, o0_6, o1, o2, o3, o4) K => fun r_y => K (AV.int IntKind.i64 r_y) [AE.Obj.cells [AV.own 1, AV.map 2, AV.own 3, AV.int IntKind.i64 o0_3, AV.own 4, AV.int IntKind.i64 o0_5, AV.bool o0_6], Obj.arr Ty.str o1, Obj.mp IntKind.i64 Ty.str o2, Obj.arr (Ty.st (Ty.pair (Ty.int IntKind.i64) Ty.str)) o3, Obj.arr (Ty.int IntKind.i64) o4]
theorem fndisk_Disk_Waits_ok (a : Adisk_Disk_Waits) (K : AV → List AE.Obj → Ans) : fnE Try.tab envdisk_Disk_Waits noHint 0 70 15 Try.f15.ntmps Try.f15.results.toList anndisk_Disk_Waits bdisk_Disk_Waits (argsdisk_Disk_Waits a).1 (argsdisk_Disk_Waits a).2 K = fndisk_Disk_Waits a (outdisk_Disk_Waits a K) := by kernel_rfl
def vFdisk_Disk_Waits (a : Adisk_Disk_Waits) (K : AV → List AE.Obj → Ans) : Ans := bindO (fnDdisk_Disk_Waits a) fun y => outdisk_Disk_Waits a K y
def Fdisk_Disk_Waits : List AV → List AE.Obj → (AV → List AE.Obj → Ans) → Ans := fun l H K => bindO (decAdisk_Disk_Waits l H) fun a => vFdisk_Disk_Waits a K
theorem Fdisk_Disk_Waits_ok : FuncOk Try.prog 15 Fdisk_Disk_Waits := func_mkD (hint := noHint) (d := 0) (n := 70) mixed tabOk envdisk_Disk_WaitsOk Try.func15 (bodySome (by kernel_rfl)) (by decide +kernel) anndisk_Disk_Waits_ok decAdisk_Disk_Waits_ok fndisk_Disk_Waits_ok fndisk_Disk_Waits_nat
--@ disk_Disk_Restart_2
noncomputable def envdisk_Disk_Restart_2 : Env := [(61, .func Fdisk_Disk_settle_2)]
theorem envdisk_Disk_Restart_2Ok : EnvOk Try.prog envdisk_Disk_Restart_2 := EnvOk.cons Fdisk_Disk_settle_2_ok (EnvOk.nil)
noncomputable def bdisk_Disk_Restart_2 : Code := Try.f16.body.getD .skip
noncomputable def Ldisk_Disk_Restart_2_n2 : Code := codeAt [1, 1, 0, 1, 0, 0, 1, 1, 0, 0, 1, 0] bdisk_Disk_Restart_2
noncomputable def annLdisk_Disk_Restart_2_n2 : Ann := .none
theorem annLdisk_Disk_Restart_2_n2_ok : AnnOk Try.prog 48 Ldisk_Disk_Restart_2_n2 annLdisk_Disk_Restart_2_n2 := (annOk_none _ _ _)
abbrev Idisk_Disk_Restart_2_n2 := (List Int) × (Int) × (Int) × (Int) × (Int) × (Int) × (Bool) × (List (List UInt8)) × (List (Int × List UInt8)) × (List (Int × List UInt8)) × (List Int) × (List (Int × List UInt8)) × (Int) × (List UInt8)
abbrev Ydisk_Disk_Restart_2_n2 := (Bool)
def Sdisk_Disk_Restart_2_n2 : Idisk_Disk_Restart_2_n2 → St := fun (t1, t5, t13, t14, o0_3, o0_5, o0_6, o1, o2, o3, o4, o5, o6_0, o6_1) => { env := [(0, AV.ptr 0 0), (1, AV.ro (Ty.int IntKind.i64) t1), (4, AV.own 5), (5, AV.int IntKind.i64 t5), (6, AV.ptr 6 0), (12, AV.own 3), (13, AV.int IntKind.i64 t13), (14, AV.int IntKind.i64 t14)], stk := [[(0, AV.ptr 0 0)]], H := [AE.Obj.cells [AV.own 1, AV.map 2, AV.own 3, AV.int IntKind.i64 o0_3, AV.own 4, AV.int IntKind.i64 o0_5, AV.bool o0_6], Obj.arr Ty.str o1, Obj.mp IntKind.i64 Ty.str o2, Obj.arr (Ty.st (Ty.pair (Ty.int IntKind.i64) Ty.str)) o3, Obj.arr (Ty.int IntKind.i64) o4, Obj.arr (Ty.st (Ty.pair (Ty.int IntKind.i64) Ty.str)) o5, AE.Obj.cells [AV.int IntKind.i64 o6_0, AV.str o6_1]], blk := 65537 }
def decdisk_Disk_Restart_2_n2 (s : St) : Option Idisk_Disk_Restart_2_n2 := match s with
  | { env := [(0, AV.ptr 0 0), (1, AV.ro (Ty.int IntKind.i64) t1), (4, AV.own 5), (5, AV.int IntKind.i64 t5), (6, AV.ptr 6 0), (12, AV.own 3), (13, AV.int IntKind.i64 t13), (14, AV.int IntKind.i64 t14)], stk := [[(0, AV.ptr 0 0)]], H := [AE.Obj.cells [AV.own 1, AV.map 2, AV.own 3, AV.int IntKind.i64 o0_3, AV.own 4, AV.int IntKind.i64 o0_5, AV.bool o0_6], Obj.arr Ty.str o1, Obj.mp IntKind.i64 Ty.str o2, Obj.arr (Ty.st (Ty.pair (Ty.int IntKind.i64) Ty.str)) o3, Obj.arr (Ty.int IntKind.i64) o4, Obj.arr (Ty.st (Ty.pair (Ty.int IntKind.i64) Ty.str)) o5, AE.Obj.cells [AV.int IntKind.i64 o6_0, AV.str o6_1]], blk := 65537 } => some (t1, t5, t13, t14, o0_3, o0_5, o0_6, o1, o2, o3, o4, o5, o6_0, o6_1)
  | _ => none
theorem decdisk_Disk_Restart_2_n2_ok (s : St) (x : Idisk_Disk_Restart_2_n2) (h : decdisk_Disk_Restart_2_n2 s = some x) : s = Sdisk_Disk_Restart_2_n2 x := by
  unfold decdisk_Disk_Restart_2_n2 at h
  split at h
  · cases h; rfl
  · cases h
def outdisk_Disk_Restart_2_n2 : Idisk_Disk_Restart_2_n2 → (Ex → St → Ans) → Ydisk_Disk_Restart_2_n2 → Ans := fun (t1, t5, t13, t14, o0_3, o0_5, o0_6, o1, o2, o3, o4, o5, o6_0, o6_1) K => fun t30_y => K (Ex.norm) { env := [(0, AV.ptr 0 0), (1, AV.ro (Ty.int IntKind.i64) t1), (4, AV.own 5), (6, AV.ptr 6 0), (12, AV.own 3), (13, AV.int IntKind.i64 t13), (14, AV.int IntKind.i64 t14), (30, AV.bool t30_y)], stk := [[(0, AV.ptr 0 0)]], H := [AE.Obj.cells [AV.own 1, AV.map 2, AV.own 3, AV.int IntKind.i64 o0_3, AV.own 4, AV.int IntKind.i64 o0_5, AV.bool o0_6], Obj.arr Ty.str o1, Obj.mp IntKind.i64 Ty.str o2, Obj.arr (Ty.st (Ty.pair (Ty.int IntKind.i64) Ty.str)) o3, Obj.arr (Ty.int IntKind.i64) o4, Obj.arr (Ty.st (Ty.pair (Ty.int IntKind.i64) Ty.str)) o5, AE.Obj.cells [AV.int IntKind.i64 o6_0, AV.str o6_1]], blk := 65537 }
def nodedisk_Disk_Restart_2_n2 {β : Type} : Idisk_Disk_Restart_2_n2 → (Ydisk_Disk_Restart_2_n2 → Option β) → Option β := fun (t1, t5, t13, t14, o0_3, o0_5, o0_6, o1, o2, o3, o4, o5, o6_0, o6_1) exit => (bif decide (t5 < (↑(List.length t1) : Int)) then (bindO (nth t1 t5) fun x => (exit (Int.tmod x (2 : Int) != (0 : Int)))) else (exit (false)))
def nodeDdisk_Disk_Restart_2_n2 (i : Idisk_Disk_Restart_2_n2) : Option Ydisk_Disk_Restart_2_n2 := nodedisk_Disk_Restart_2_n2 i some
theorem nodedisk_Disk_Restart_2_n2_nat (i : Idisk_Disk_Restart_2_n2) (k : Ydisk_Disk_Restart_2_n2 → Ans) : nodedisk_Disk_Restart_2_n2 i k = bindO (nodeDdisk_Disk_Restart_2_n2 i) k := by
  obtain ⟨t1, t5, t13, t14, o0_3, o0_5, o0_6, o1, o2, o3, o4, o5, o6_0, o6_1⟩ := i
  simp only [nodeDdisk_Disk_Restart_2_n2, nodedisk_Disk_Restart_2_n2, bindO_cond, bindO_assoc, bindO_none, bindO_pure, bindO_elim, bindO_unP]
theorem nodedisk_Disk_Restart_2_n2_ok (i : Idisk_Disk_Restart_2_n2) (K : Ex → St → Ans) : codeI Try.tab envdisk_Disk_Restart_2 noHint (codeD Try.tab envdisk_Disk_Restart_2 noHint 0 64) 70 48 annLdisk_Disk_Restart_2_n2 Ldisk_Disk_Restart_2_n2 (weakP 5 (exk [0, 1, 4, 6, 12, 13, 14, 30] [] []) K) (Sdisk_Disk_Restart_2_n2 i) = nodedisk_Disk_Restart_2_n2 i (outdisk_Disk_Restart_2_n2 i K) := by kernel_rfl
theorem GNdisk_Disk_Restart_2_n2_ok : CSum Try.prog 48 Ldisk_Disk_Restart_2_n2 (sumN decdisk_Disk_Restart_2_n2 nodeDdisk_Disk_Restart_2_n2 outdisk_Disk_Restart_2_n2) := csum_node mixed tabOk envdisk_Disk_Restart_2Ok 5 (exk [0, 1, 4, 6, 12, 13, 14, 30] [] []) annLdisk_Disk_Restart_2_n2_ok decdisk_Disk_Restart_2_n2_ok nodedisk_Disk_Restart_2_n2_ok nodedisk_Disk_Restart_2_n2_nat
noncomputable def Gdisk_Disk_Restart_2_n2 : (Ex → St → Ans) → St → Ans := (sumN decdisk_Disk_Restart_2_n2 nodeDdisk_Disk_Restart_2_n2 outdisk_Disk_Restart_2_n2)
theorem Gdisk_Disk_Restart_2_n2_ok : CSum Try.prog 48 Ldisk_Disk_Restart_2_n2 Gdisk_Disk_Restart_2_n2 := GNdisk_Disk_Restart_2_n2_ok
noncomputable def Ldisk_Disk_Restart_2_n1 : Code := codeAt [1, 1, 0, 1, 0, 0, 1, 1, 0] bdisk_Disk_Restart_2
noncomputable def annLdisk_Disk_Restart_2_n1 : Ann := (.block (.seq .none (.seq (.cut 5 [0, 1, 4, 5, 6, 12, 13, 14] Gdisk_Disk_Restart_2_n2) .none)))
theorem annLdisk_Disk_Restart_2_n1_ok : AnnOk Try.prog 48 Ldisk_Disk_Restart_2_n1 annLdisk_Disk_Restart_2_n1 := ⟨(annOk_none _ _ _), ⟨Gdisk_Disk_Restart_2_n2_ok, (annOk_none _ _ _)⟩⟩
abbrev Idisk_Disk_Restart_2_n1 := (List Int) × (Int) × (Int) × (Int) × (Int) × (Bool) × (List (List UInt8)) × (List (Int × List UInt8)) × (List (Int × List UInt8)) × (List Int) × (List (Int × List UInt8))
abbrev Ydisk_Disk_Restart_2_n1 := (List (Int × List UInt8))
def Sdisk_Disk_Restart_2_n1 : Idisk_Disk_Restart_2_n1 → St := fun (t1, t13, t14, o0_3, o0_5, o0_6, o1, o2, o3, o4, o5) => { env := [(0, AV.ptr 0 0), (1, AV.ro (Ty.int IntKind.i64) t1), (4, AV.own 5), (12, AV.own 3), (13, AV.int IntKind.i64 t13), (14, AV.int IntKind.i64 t14)], stk := [[(0, AV.ptr 0 0)]], H := [AE.Obj.cells [AV.own 1, AV.map 2, AV.own 3, AV.int IntKind.i64 o0_3, AV.own 4, AV.int IntKind.i64 o0_5, AV.bool o0_6], Obj.arr Ty.str o1, Obj.mp IntKind.i64 Ty.str o2, Obj.arr (Ty.st (Ty.pair (Ty.int IntKind.i64) Ty.str)) o3, Obj.arr (Ty.int IntKind.i64) o4, Obj.arr (Ty.st (Ty.pair (Ty.int IntKind.i64) Ty.str)) o5], blk := 65536 }
def decdisk_Disk_Restart_2_n1 (s : St) : Option Idisk_Disk_Restart_2_n1 := match s with
  | { env := [(0, AV.ptr 0 0), (1, AV.ro (Ty.int IntKind.i64) t1), (4, AV.own 5), (12, AV.own 3), (13, AV.int IntKind.i64 t13), (14, AV.int IntKind.i64 t14)], stk := [[(0, AV.ptr 0 0)]], H := [AE.Obj.cells [AV.own 1, AV.map 2, AV.own 3, AV.int IntKind.i64 o0_3, AV.own 4, AV.int IntKind.i64 o0_5, AV.bool o0_6], Obj.arr Ty.str o1, Obj.mp IntKind.i64 Ty.str o2, Obj.arr (Ty.st (Ty.pair (Ty.int IntKind.i64) Ty.str)) o3, Obj.arr (Ty.int IntKind.i64) o4, Obj.arr (Ty.st (Ty.pair (Ty.int IntKind.i64) Ty.str)) o5], blk := 65536 } => some (t1, t13, t14, o0_3, o0_5, o0_6, o1, o2, o3, o4, o5)
  | _ => none
theorem decdisk_Disk_Restart_2_n1_ok (s : St) (x : Idisk_Disk_Restart_2_n1) (h : decdisk_Disk_Restart_2_n1 s = some x) : s = Sdisk_Disk_Restart_2_n1 x := by
  unfold decdisk_Disk_Restart_2_n1 at h
  split at h
  · cases h; rfl
  · cases h
def outdisk_Disk_Restart_2_n1 : Idisk_Disk_Restart_2_n1 → (Ex → St → Ans) → Ydisk_Disk_Restart_2_n1 → Ans := fun (t1, t13, t14, o0_3, o0_5, o0_6, o1, o2, o3, o4, o5) K => fun o5_y => K (Ex.norm) { env := [(0, AV.ptr 0 0), (1, AV.ro (Ty.int IntKind.i64) t1), (4, AV.own 5), (12, AV.own 3), (13, AV.int IntKind.i64 t13), (14, AV.int IntKind.i64 t14)], stk := [[(0, AV.ptr 0 0)]], H := [AE.Obj.cells [AV.own 1, AV.map 2, AV.own 3, AV.int IntKind.i64 o0_3, AV.own 4, AV.int IntKind.i64 o0_5, AV.bool o0_6], Obj.arr Ty.str o1, Obj.mp IntKind.i64 Ty.str o2, Obj.arr (Ty.st (Ty.pair (Ty.int IntKind.i64) Ty.str)) o3, Obj.arr (Ty.int IntKind.i64) o4, Obj.arr (Ty.st (Ty.pair (Ty.int IntKind.i64) Ty.str)) o5_y], blk := 65537 }
def nodedisk_Disk_Restart_2_n1 {β : Type} : Idisk_Disk_Restart_2_n1 → (Ydisk_Disk_Restart_2_n1 → Option β) → Option β := fun (t1, t13, t14, o0_3, o0_5, o0_6, o1, o2, o3, o4, o5) exit => (bif inR t14 (List.length o3) then (bindO (o3[Int.toNat t14]?) fun x => (bindO (nodeDdisk_Disk_Restart_2_n2 (t1, t14, t13, t14, o0_3, o0_5, o0_6, o1, o2, o3, o4, o5, x.fst, x.snd)) fun t30 => (bif t30 then (bif Nat.ble ((List.length o5 + List.length [(x.fst, x.snd)]) * (24 : Nat)) (140737488355328 : Nat) then (exit (o5 ++ [(x.fst, x.snd)])) else none) else (exit (o5))))) else none)
def nodeDdisk_Disk_Restart_2_n1 (i : Idisk_Disk_Restart_2_n1) : Option Ydisk_Disk_Restart_2_n1 := nodedisk_Disk_Restart_2_n1 i some
theorem nodedisk_Disk_Restart_2_n1_nat (i : Idisk_Disk_Restart_2_n1) (k : Ydisk_Disk_Restart_2_n1 → Ans) : nodedisk_Disk_Restart_2_n1 i k = bindO (nodeDdisk_Disk_Restart_2_n1 i) k := by
  obtain ⟨t1, t13, t14, o0_3, o0_5, o0_6, o1, o2, o3, o4, o5⟩ := i
  simp only [nodeDdisk_Disk_Restart_2_n1, nodedisk_Disk_Restart_2_n1, bindO_cond, bindO_assoc, bindO_none, bindO_pure, bindO_elim, bindO_unP]
theorem nodedisk_Disk_Restart_2_n1_ok (i : Idisk_Disk_Restart_2_n1) (K : Ex → St → Ans) : codeI Try.tab envdisk_Disk_Restart_2 noHint (codeD Try.tab envdisk_Disk_Restart_2 noHint 0 64) 70 48 annLdisk_Disk_Restart_2_n1 Ldisk_Disk_Restart_2_n1 (weakP 5 (exk [0, 1, 4, 12, 13, 14] [] []) K) (Sdisk_Disk_Restart_2_n1 i) = nodedisk_Disk_Restart_2_n1 i (outdisk_Disk_Restart_2_n1 i K) := by kernel_rfl
theorem GNdisk_Disk_Restart_2_n1_ok : CSum Try.prog 48 Ldisk_Disk_Restart_2_n1 (sumN decdisk_Disk_Restart_2_n1 nodeDdisk_Disk_Restart_2_n1 outdisk_Disk_Restart_2_n1) := csum_node mixed tabOk envdisk_Disk_Restart_2Ok 5 (exk [0, 1, 4, 12, 13, 14] [] []) annLdisk_Disk_Restart_2_n1_ok decdisk_Disk_Restart_2_n1_ok nodedisk_Disk_Restart_2_n1_ok nodedisk_Disk_Restart_2_n1_nat
noncomputable def Gdisk_Disk_Restart_2_n1 : (Ex → St → Ans) → St → Ans := (sumN decdisk_Disk_Restart_2_n1 nodeDdisk_Disk_Restart_2_n1 outdisk_Disk_Restart_2_n1)
theorem Gdisk_Disk_Restart_2_n1_ok : CSum Try.prog 48 Ldisk_Disk_Restart_2_n1 Gdisk_Disk_Restart_2_n1 := GNdisk_Disk_Restart_2_n1_ok
noncomputable def Ldisk_Disk_Restart_2_n0 : Code := codeAt [1, 1, 0, 1, 0, 0] bdisk_Disk_Restart_2
noncomputable def annLdisk_Disk_Restart_2_n0 : Ann := .at 5 [0, 1, 4, 12, 13, 14] (.loop (.seq .none (.seq .none (.seq (.cut 5 [0, 1, 4, 12, 13, 14] Gdisk_Disk_Restart_2_n1) .none))))
theorem annLdisk_Disk_Restart_2_n0_ok : AnnOk Try.prog 48 (.loop Ldisk_Disk_Restart_2_n0) annLdisk_Disk_Restart_2_n0 := annOk_at ⟨(annOk_none _ _ _), ⟨(annOk_none _ _ _), ⟨Gdisk_Disk_Restart_2_n1_ok, (annOk_none _ _ _)⟩⟩⟩
abbrev Idisk_Disk_Restart_2_n0 := (List Int) × (Int) × (Int) × (Int) × (Bool) × (List (List UInt8)) × (List (Int × List UInt8)) × (List (Int × List UInt8)) × (List Int)
abbrev Ydisk_Disk_Restart_2_n0 := (List (Int × List UInt8))
abbrev Vdisk_Disk_Restart_2_n0 := (Int) × (List (Int × List UInt8))
def Sdisk_Disk_Restart_2_n0 : Idisk_Disk_Restart_2_n0 → Vdisk_Disk_Restart_2_n0 → St := fun (t1, t13, o0_3, o0_5, o0_6, o1, o2, o3, o4) (t14, o5) => { env := [(0, AV.ptr 0 0), (1, AV.ro (Ty.int IntKind.i64) t1), (4, AV.own 5), (12, AV.own 3), (13, AV.int IntKind.i64 t13), (14, AV.int IntKind.i64 t14)], stk := [[(0, AV.ptr 0 0)]], H := [AE.Obj.cells [AV.own 1, AV.map 2, AV.own 3, AV.int IntKind.i64 o0_3, AV.own 4, AV.int IntKind.i64 o0_5, AV.bool o0_6], Obj.arr Ty.str o1, Obj.mp IntKind.i64 Ty.str o2, Obj.arr (Ty.st (Ty.pair (Ty.int IntKind.i64) Ty.str)) o3, Obj.arr (Ty.int IntKind.i64) o4, Obj.arr (Ty.st (Ty.pair (Ty.int IntKind.i64) Ty.str)) o5], blk := 65536 }
def decdisk_Disk_Restart_2_n0 (s : St) : Option (Idisk_Disk_Restart_2_n0 × Vdisk_Disk_Restart_2_n0) := match s with
  | { env := [(0, AV.ptr 0 0), (1, AV.ro (Ty.int IntKind.i64) t1), (4, AV.own 5), (12, AV.own 3), (13, AV.int IntKind.i64 t13), (14, AV.int IntKind.i64 t14)], stk := [[(0, AV.ptr 0 0)]], H := [AE.Obj.cells [AV.own 1, AV.map 2, AV.own 3, AV.int IntKind.i64 o0_3, AV.own 4, AV.int IntKind.i64 o0_5, AV.bool o0_6], Obj.arr Ty.str o1, Obj.mp IntKind.i64 Ty.str o2, Obj.arr (Ty.st (Ty.pair (Ty.int IntKind.i64) Ty.str)) o3, Obj.arr (Ty.int IntKind.i64) o4, Obj.arr (Ty.st (Ty.pair (Ty.int IntKind.i64) Ty.str)) o5], blk := 65536 } => some ((t1, t13, o0_3, o0_5, o0_6, o1, o2, o3, o4), (t14, o5))
  | _ => none
theorem decdisk_Disk_Restart_2_n0_ok (s : St) (x : Idisk_Disk_Restart_2_n0 × Vdisk_Disk_Restart_2_n0) (h : decdisk_Disk_Restart_2_n0 s = some x) : s = Sdisk_Disk_Restart_2_n0 x.1 x.2 := by
  unfold decdisk_Disk_Restart_2_n0 at h
  split at h
  · cases h; rfl
  · cases h
def outdisk_Disk_Restart_2_n0 : Idisk_Disk_Restart_2_n0 → (Ex → St → Ans) → Ydisk_Disk_Restart_2_n0 → Ans := fun (t1, t13, o0_3, o0_5, o0_6, o1, o2, o3, o4) K => fun o5_y => K (Ex.exit 0) { env := [(0, AV.ptr 0 0), (4, AV.own 5)], stk := [[(0, AV.ptr 0 0)]], H := [AE.Obj.cells [AV.own 1, AV.map 2, AV.own 3, AV.int IntKind.i64 o0_3, AV.own 4, AV.int IntKind.i64 o0_5, AV.bool o0_6], Obj.arr Ty.str o1, Obj.mp IntKind.i64 Ty.str o2, Obj.arr (Ty.st (Ty.pair (Ty.int IntKind.i64) Ty.str)) o3, Obj.arr (Ty.int IntKind.i64) o4, Obj.arr (Ty.st (Ty.pair (Ty.int IntKind.i64) Ty.str)) o5_y], blk := 65536 }
def stepdisk_Disk_Restart_2_n0 {β : Type} : Idisk_Disk_Restart_2_n0 → Vdisk_Disk_Restart_2_n0 → (Vdisk_Disk_Restart_2_n0 → Option β) → (Ydisk_Disk_Restart_2_n0 → Option β) → Option β := fun (t1, t13, o0_3, o0_5, o0_6, o1, o2, o3, o4) (t14, o5) next exit => (bif decide (t14 < t13) then (bindO (nodeDdisk_Disk_Restart_2_n1 (t1, t13, t14, o0_3, o0_5, o0_6, o1, o2, o3, o4, o5)) fun o5_2 => (next (IntKind.wrap IntKind.i64 (t14 + (1 : Int)), o5_2))) else (exit (o5)))
def stepDdisk_Disk_Restart_2_n0 (i : Idisk_Disk_Restart_2_n0) (v : Vdisk_Disk_Restart_2_n0) : Option (Vdisk_Disk_Restart_2_n0 ⊕ Ydisk_Disk_Restart_2_n0) := stepdisk_Disk_Restart_2_n0 i v (fun v => some (.inl v)) (fun y => some (.inr y))
theorem stepdisk_Disk_Restart_2_n0_nat (i : Idisk_Disk_Restart_2_n0) (v : Vdisk_Disk_Restart_2_n0) (next : Vdisk_Disk_Restart_2_n0 → Ans) (exit : Ydisk_Disk_Restart_2_n0 → Ans) : stepdisk_Disk_Restart_2_n0 i v next exit = bindO (stepDdisk_Disk_Restart_2_n0 i v) (Sum.elim next exit) := by
  obtain ⟨t1, t13, o0_3, o0_5, o0_6, o1, o2, o3, o4⟩ := i
  obtain ⟨t14, o5⟩ := v
  simp only [stepDdisk_Disk_Restart_2_n0, stepdisk_Disk_Restart_2_n0, bindO_cond, bindO_assoc, bindO_none, bindO_pure, bindO_elim, bindO_unP, Sum.elim_inl, Sum.elim_inr]
theorem stepdisk_Disk_Restart_2_n0_ok (n : Nat) (i : Idisk_Disk_Restart_2_n0) (v : Vdisk_Disk_Restart_2_n0) (K : Ex → St → Ans) : codeI Try.tab envdisk_Disk_Restart_2 noHint (codeD Try.tab envdisk_Disk_Restart_2 noHint 0 64) (n+1) 48 annLdisk_Disk_Restart_2_n0 (.loop Ldisk_Disk_Restart_2_n0) (weakP 5 (exk [0, 4] [] [(0, [0, 4])]) K) (Sdisk_Disk_Restart_2_n0 i v) = stepdisk_Disk_Restart_2_n0 i v (fun v' => codeI Try.tab envdisk_Disk_Restart_2 noHint (codeD Try.tab envdisk_Disk_Restart_2 noHint 0 64) n 48 annLdisk_Disk_Restart_2_n0 (.loop Ldisk_Disk_Restart_2_n0) (weakP 5 (exk [0, 4] [] [(0, [0, 4])]) K) (Sdisk_Disk_Restart_2_n0 i v')) (fun y => outdisk_Disk_Restart_2_n0 i K y) := by kernel_rfl
theorem GNdisk_Disk_Restart_2_n0_ok : CSum Try.prog 48 (.loop Ldisk_Disk_Restart_2_n0) (sumL decdisk_Disk_Restart_2_n0 stepDdisk_Disk_Restart_2_n0 outdisk_Disk_Restart_2_n0) := csum_loop mixed tabOk envdisk_Disk_Restart_2Ok 5 (exk [0, 4] [] [(0, [0, 4])]) annLdisk_Disk_Restart_2_n0_ok decdisk_Disk_Restart_2_n0_ok stepdisk_Disk_Restart_2_n0_ok stepdisk_Disk_Restart_2_n0_nat
noncomputable def Gdisk_Disk_Restart_2_n0 : (Ex → St → Ans) → St → Ans := (sumL decdisk_Disk_Restart_2_n0 stepDdisk_Disk_Restart_2_n0 outdisk_Disk_Restart_2_n0)
theorem Gdisk_Disk_Restart_2_n0_ok : CSum Try.prog 48 (.loop Ldisk_Disk_Restart_2_n0) Gdisk_Disk_Restart_2_n0 := GNdisk_Disk_Restart_2_n0_ok
noncomputable def anndisk_Disk_Restart_2 : Ann := (.seq .none (.seq .none (.seq (.seq .none (.block (.cut 5 [0, 1, 4, 12, 13, 14] Gdisk_Disk_Restart_2_n0))) .none)))
theorem anndisk_Disk_Restart_2_ok : AnnOk Try.prog 48 bdisk_Disk_Restart_2 anndisk_Disk_Restart_2 := ⟨(annOk_none _ _ _), ⟨(annOk_none _ _ _), ⟨⟨(annOk_none _ _ _), Gdisk_Disk_Restart_2_n0_ok⟩, (annOk_none _ _ _)⟩⟩⟩
abbrev Adisk_Disk_Restart_2 := (List Int) × (Int) × (Int) × (Bool) × (List (List UInt8)) × (List (Int × List UInt8)) × (List (Int × List UInt8)) × (List Int)
abbrev Ydisk_Disk_Restart_2 := (List (List UInt8))
def fndisk_Disk_Restart_2 {β : Type} : Adisk_Disk_Restart_2 → (Ydisk_Disk_Restart_2 → Option β) → Option β := fun (a1, o0_3, o0_5, o0_6, o1, o2, o3, o4) exit => (bindO (loopD (stepDdisk_Disk_Restart_2_n0 (a1, (↑(List.length o3) : Int), o0_3, o0_5, o0_6, o1, o2, o3, o4)) FUEL ((0 : Int), [])) fun o5 => (bindO (fnDdisk_Disk_settle_2 (o5, o0_3, o0_5, o0_6, o1, o2, o3, o4)) fun o1_2 => (exit (o1_2))))
def fnDdisk_Disk_Restart_2 (a : Adisk_Disk_Restart_2) : Option Ydisk_Disk_Restart_2 := fndisk_Disk_Restart_2 a some
theorem fndisk_Disk_Restart_2_nat (a : Adisk_Disk_Restart_2) (k : Ydisk_Disk_Restart_2 → Ans) : fndisk_Disk_Restart_2 a k = bindO (fnDdisk_Disk_Restart_2 a) k := by
  obtain ⟨a1, o0_3, o0_5, o0_6, o1, o2, o3, o4⟩ := a
  simp only [fnDdisk_Disk_Restart_2, fndisk_Disk_Restart_2, bindO_cond, bindO_assoc, bindO_none, bindO_pure, bindO_elim, bindO_unP]
def argsdisk_Disk_Restart_2 : Adisk_Disk_Restart_2 → List AV × List AE.Obj := fun (a1, o0_3, o0_5, o0_6, o1, o2, o3, o4) => ([AV.ptr 0 0, AV.ro (Ty.int IntKind.i64) a1], [AE.Obj.cells [AV.own 1, AV.map 2, AV.own 3, AV.int IntKind.i64 o0_3, AV.own 4, AV.int IntKind.i64 o0_5, AV.bool o0_6], Obj.arr Ty.str o1, Obj.mp IntKind.i64 Ty.str o2, Obj.arr (Ty.st (Ty.pair (Ty.int IntKind.i64) Ty.str)) o3, Obj.arr (Ty.int IntKind.i64) o4])
def decAdisk_Disk_Restart_2 (l : List AV) (H : List AE.Obj) : Option Adisk_Disk_Restart_2 := match l, H with
  | [AV.ptr 0 0, AV.ro (Ty.int IntKind.i64) a1], [AE.Obj.cells [AV.own 1, AV.map 2, AV.own 3, AV.int IntKind.i64 o0_3, AV.own 4, AV.int IntKind.i64 o0_5, AV.bool o0_6], Obj.arr Ty.str o1, Obj.mp IntKind.i64 Ty.str o2, Obj.arr (Ty.st (Ty.pair (Ty.int IntKind.i64) Ty.str)) o3, Obj.arr (Ty.int IntKind.i64) o4] => some (a1, o0_3, o0_5, o0_6, o1, o2, o3, o4)
  | _, _ => none
theorem decAdisk_Disk_Restart_2_ok (l : List AV) (H : List AE.Obj) (a : Adisk_Disk_Restart_2) (h : decAdisk_Disk_Restart_2 l H = some a) : (l, H) = argsdisk_Disk_Restart_2 a := by
  unfold decAdisk_Disk_Restart_2 at h
  split at h
  · cases h; rfl
  · cases h
def outdisk_Disk_Restart_2 : Adisk_Disk_Restart_2 → (AV → List AE.Obj → Ans) → Ydisk_Disk_Restart_2 → Ans := fun (a1, o0_3, o0_5, o0_6, o1, o2, o3, o4) K => fun o1_y => K (AV.tup []) [AE.Obj.cells [AV.own 1, AV.map 2, AV.own 5, AV.int IntKind.i64 o0_3, AV.own 6, AV.int IntKind.i64 (0), AV.bool (false)], Obj.arr Ty.str o1_y, Obj.mp IntKind.i64 Ty.str ([]), Obj.arr (Ty.st (Ty.pair (Ty.int IntKind.i64) Ty.str)) o3, Obj.arr (Ty.int IntKind.i64) o4, Obj.arr (Ty.st (Ty.pair (Ty.int IntKind.i64) Ty.str)) ([]), Obj.arr (Ty.int IntKind.i64) ([])]
theorem fndisk_Disk_Restart_2_ok (a : Adisk_Disk_Restart_2) (K : AV → List AE.Obj → Ans) : fnE Try.tab envdisk_Disk_Restart_2 noHint 0 70 16 Try.f16.ntmps Try.f16.results.toList anndisk_Disk_Restart_2 bdisk_Disk_Restart_2 (argsdisk_Disk_Restart_2 a).1 (argsdisk_Disk_Restart_2 a).2 K = fndisk_Disk_Restart_2 a (outdisk_Disk_Restart_2 a K) := by kernel_rfl
def vFdisk_Disk_Restart_2 (a : Adisk_Disk_Restart_2) (K : AV → List AE.Obj → Ans) : Ans := bindO (fnDdisk_Disk_Restart_2 a) fun y => outdisk_Disk_Restart_2 a K y
def Fdisk_Disk_Restart_2 : List AV → List AE.Obj → (AV → List AE.Obj → Ans) → Ans := fun l H K => bindO (decAdisk_Disk_Restart_2 l H) fun a => vFdisk_Disk_Restart_2 a K
theorem Fdisk_Disk_Restart_2_ok : FuncOk Try.prog 16 Fdisk_Disk_Restart_2 := func_mkD (hint := noHint) (d := 0) (n := 70) mixed tabOk envdisk_Disk_Restart_2Ok Try.func16 (bodySome (by kernel_rfl)) (by decide +kernel) anndisk_Disk_Restart_2_ok decAdisk_Disk_Restart_2_ok fndisk_Disk_Restart_2_ok fndisk_Disk_Restart_2_nat
--@ law08_Great
noncomputable def envlaw08_Great : Env := []
theorem envlaw08_GreatOk : EnvOk Try.prog envlaw08_Great := EnvOk.nil
noncomputable def blaw08_Great : Code := Try.f18.body.getD .skip
noncomputable def Llaw08_Great_n2 : Code := codeAt [1, 1, 0, 1, 0, 0, 1, 0, 0, 0, 0] blaw08_Great
noncomputable def annLlaw08_Great_n2 : Ann := .none
theorem annLlaw08_Great_n2_ok : AnnOk Try.prog 41 Llaw08_Great_n2 annLlaw08_Great_n2 := (annOk_none _ _ _)
abbrev Ilaw08_Great_n2 := (List (Int × Int × List UInt8 × List Int)) × (Int) × (Int)
abbrev Ylaw08_Great_n2 := (Bool)
def Slaw08_Great_n2 : Ilaw08_Great_n2 → St := fun (t0, t3, t4) => { env := [(0, AV.ro (Ty.st (Ty.pair (Ty.int IntKind.i64) (Ty.pair (Ty.int IntKind.i64) (Ty.pair Ty.str (Ty.list (Ty.int IntKind.i64)))))) t0), (3, AV.int IntKind.i64 t3), (4, AV.int IntKind.i64 t4)], stk := [[]], H := [], blk := 73729 }
def declaw08_Great_n2 (s : St) : Option Ilaw08_Great_n2 := match s with
  | { env := [(0, AV.ro (Ty.st (Ty.pair (Ty.int IntKind.i64) (Ty.pair (Ty.int IntKind.i64) (Ty.pair Ty.str (Ty.list (Ty.int IntKind.i64)))))) t0), (3, AV.int IntKind.i64 t3), (4, AV.int IntKind.i64 t4)], stk := [[]], H := [], blk := 73729 } => some (t0, t3, t4)
  | _ => none
theorem declaw08_Great_n2_ok (s : St) (x : Ilaw08_Great_n2) (h : declaw08_Great_n2 s = some x) : s = Slaw08_Great_n2 x := by
  unfold declaw08_Great_n2 at h
  split at h
  · cases h; rfl
  · cases h
def outlaw08_Great_n2 : Ilaw08_Great_n2 → (Ex → St → Ans) → Ylaw08_Great_n2 → Ans := fun (t0, t3, t4) K => fun t30_y => K (Ex.norm) { env := [(0, AV.ro (Ty.st (Ty.pair (Ty.int IntKind.i64) (Ty.pair (Ty.int IntKind.i64) (Ty.pair Ty.str (Ty.list (Ty.int IntKind.i64)))))) t0), (3, AV.int IntKind.i64 t3), (4, AV.int IntKind.i64 t4), (30, AV.bool t30_y)], stk := [[]], H := [], blk := 73729 }
def nodelaw08_Great_n2 {β : Type} : Ilaw08_Great_n2 → (Ylaw08_Great_n2 → Option β) → Option β := fun (t0, t3, t4) exit => (bif decide (t4 ≥ (150 : Int)) then (exit (true)) else (bindO (nth t0 t4) fun x => (bif decide ((↑(List.length x.snd.snd.fst) : Int) > (500 : Int)) then (exit (true)) else (bindO (nth t0 t4) fun x_2 => (exit (decide ((↑(List.length x_2.snd.snd.snd) : Int) > (500 : Int))))))))
def nodeDlaw08_Great_n2 (i : Ilaw08_Great_n2) : Option Ylaw08_Great_n2 := nodelaw08_Great_n2 i some
theorem nodelaw08_Great_n2_nat (i : Ilaw08_Great_n2) (k : Ylaw08_Great_n2 → Ans) : nodelaw08_Great_n2 i k = bindO (nodeDlaw08_Great_n2 i) k := by
  obtain ⟨t0, t3, t4⟩ := i
  simp only [nodeDlaw08_Great_n2, nodelaw08_Great_n2, bindO_cond, bindO_assoc, bindO_none, bindO_pure, bindO_elim, bindO_unP]
theorem nodelaw08_Great_n2_ok (i : Ilaw08_Great_n2) (K : Ex → St → Ans) : codeI Try.tab envlaw08_Great noHint (codeD Try.tab envlaw08_Great noHint 0 64) 70 41 annLlaw08_Great_n2 Llaw08_Great_n2 (weakP 0 (exk [0, 3, 4, 30] [2] []) K) (Slaw08_Great_n2 i) = nodelaw08_Great_n2 i (outlaw08_Great_n2 i K) := by kernel_rfl
theorem GNlaw08_Great_n2_ok : CSum Try.prog 41 Llaw08_Great_n2 (sumN declaw08_Great_n2 nodeDlaw08_Great_n2 outlaw08_Great_n2) := csum_node mixed tabOk envlaw08_GreatOk 0 (exk [0, 3, 4, 30] [2] []) annLlaw08_Great_n2_ok declaw08_Great_n2_ok nodelaw08_Great_n2_ok nodelaw08_Great_n2_nat
noncomputable def Glaw08_Great_n2 : (Ex → St → Ans) → St → Ans := (sumN declaw08_Great_n2 nodeDlaw08_Great_n2 outlaw08_Great_n2)
theorem Glaw08_Great_n2_ok : CSum Try.prog 41 Llaw08_Great_n2 Glaw08_Great_n2 := GNlaw08_Great_n2_ok
noncomputable def Llaw08_Great_n1 : Code := codeAt [1, 1, 0, 1, 0, 0, 1, 0] blaw08_Great
noncomputable def annLlaw08_Great_n1 : Ann := (.block (.seq (.seq (.cut 0 [0, 3, 4] Glaw08_Great_n2) .none) .none))
theorem annLlaw08_Great_n1_ok : AnnOk Try.prog 41 Llaw08_Great_n1 annLlaw08_Great_n1 := ⟨⟨Glaw08_Great_n2_ok, (annOk_none _ _ _)⟩, (annOk_none _ _ _)⟩
abbrev Ilaw08_Great_n1 := (List (Int × Int × List UInt8 × List Int)) × (Int) × (Int)
abbrev Ylaw08_Great_n1 := (Unit) ⊕ ((Int))
def Slaw08_Great_n1 : Ilaw08_Great_n1 → St := fun (t0, t3, t4) => { env := [(0, AV.ro (Ty.st (Ty.pair (Ty.int IntKind.i64) (Ty.pair (Ty.int IntKind.i64) (Ty.pair Ty.str (Ty.list (Ty.int IntKind.i64)))))) t0), (3, AV.int IntKind.i64 t3), (4, AV.int IntKind.i64 t4)], stk := [[]], H := [], blk := 73728 }
def declaw08_Great_n1 (s : St) : Option Ilaw08_Great_n1 := match s with
  | { env := [(0, AV.ro (Ty.st (Ty.pair (Ty.int IntKind.i64) (Ty.pair (Ty.int IntKind.i64) (Ty.pair Ty.str (Ty.list (Ty.int IntKind.i64)))))) t0), (3, AV.int IntKind.i64 t3), (4, AV.int IntKind.i64 t4)], stk := [[]], H := [], blk := 73728 } => some (t0, t3, t4)
  | _ => none
theorem declaw08_Great_n1_ok (s : St) (x : Ilaw08_Great_n1) (h : declaw08_Great_n1 s = some x) : s = Slaw08_Great_n1 x := by
  unfold declaw08_Great_n1 at h
  split at h
  · cases h; rfl
  · cases h
def outlaw08_Great_n1 : Ilaw08_Great_n1 → (Ex → St → Ans) → Ylaw08_Great_n1 → Ans := fun (t0, t3, t4) K => (Sum.elim (fun _ => K (Ex.ret) { env := [(2, AV.bool (true))], stk := [[]], H := [], blk := 73729 }) (fun t3_y => K (Ex.norm) { env := [(0, AV.ro (Ty.st (Ty.pair (Ty.int IntKind.i64) (Ty.pair (Ty.int IntKind.i64) (Ty.pair Ty.str (Ty.list (Ty.int IntKind.i64)))))) t0), (3, AV.int IntKind.i64 t3_y), (4, AV.int IntKind.i64 t4)], stk := [[]], H := [], blk := 73729 }))
def nodelaw08_Great_n1 {β : Type} : Ilaw08_Great_n1 → (Ylaw08_Great_n1 → Option β) → Option β := fun (t0, t3, t4) exit => (bindO (nodeDlaw08_Great_n2 (t0, t3, t4)) fun t30 => (bif t30 then (exit (Sum.inl ())) else (bindO (nth t0 t4) fun x => (exit (Sum.inr (IntKind.wrap IntKind.i64 (t3 + (↑(List.length x.snd.snd.snd) : Int))))))))
def nodeDlaw08_Great_n1 (i : Ilaw08_Great_n1) : Option Ylaw08_Great_n1 := nodelaw08_Great_n1 i some
theorem nodelaw08_Great_n1_nat (i : Ilaw08_Great_n1) (k : Ylaw08_Great_n1 → Ans) : nodelaw08_Great_n1 i k = bindO (nodeDlaw08_Great_n1 i) k := by
  obtain ⟨t0, t3, t4⟩ := i
  simp only [nodeDlaw08_Great_n1, nodelaw08_Great_n1, bindO_cond, bindO_assoc, bindO_none, bindO_pure, bindO_elim, bindO_unP]
theorem nodelaw08_Great_n1_ok (i : Ilaw08_Great_n1) (K : Ex → St → Ans) : codeI Try.tab envlaw08_Great noHint (codeD Try.tab envlaw08_Great noHint 0 64) 70 41 annLlaw08_Great_n1 Llaw08_Great_n1 (weakP 0 (exk [0, 3, 4] [2] []) K) (Slaw08_Great_n1 i) = nodelaw08_Great_n1 i (outlaw08_Great_n1 i K) := by kernel_rfl
theorem GNlaw08_Great_n1_ok : CSum Try.prog 41 Llaw08_Great_n1 (sumN declaw08_Great_n1 nodeDlaw08_Great_n1 outlaw08_Great_n1) := csum_node mixed tabOk envlaw08_GreatOk 0 (exk [0, 3, 4] [2] []) annLlaw08_Great_n1_ok declaw08_Great_n1_ok nodelaw08_Great_n1_ok nodelaw08_Great_n1_nat
noncomputable def Glaw08_Great_n1 : (Ex → St → Ans) → St → Ans := (sumN declaw08_Great_n1 nodeDlaw08_Great_n1 outlaw08_Great_n1)
theorem Glaw08_Great_n1_ok : CSum Try.prog 41 Llaw08_Great_n1 Glaw08_Great_n1 := GNlaw08_Great_n1_ok
noncomputable def Llaw08_Great_n0 : Code := codeAt [1, 1, 0, 1, 0, 0] blaw08_Great
noncomputable def annLlaw08_Great_n0 : Ann := .at 0 [0, 3, 4] (.loop (.seq .none (.seq (.cut 0 [0, 3, 4] Glaw08_Great_n1) .none)))
theorem annLlaw08_Great_n0_ok : AnnOk Try.prog 41 (.loop Llaw08_Great_n0) annLlaw08_Great_n0 := annOk_at ⟨(annOk_none _ _ _), ⟨Glaw08_Great_n1_ok, (annOk_none _ _ _)⟩⟩
abbrev Ilaw08_Great_n0 := (List (Int × Int × List UInt8 × List Int))
abbrev Ylaw08_Great_n0 := (Unit) ⊕ ((Int))
abbrev Vlaw08_Great_n0 := (Int) × (Int)
def Slaw08_Great_n0 : Ilaw08_Great_n0 → Vlaw08_Great_n0 → St := fun t0 (t3, t4) => { env := [(0, AV.ro (Ty.st (Ty.pair (Ty.int IntKind.i64) (Ty.pair (Ty.int IntKind.i64) (Ty.pair Ty.str (Ty.list (Ty.int IntKind.i64)))))) t0), (3, AV.int IntKind.i64 t3), (4, AV.int IntKind.i64 t4)], stk := [[]], H := [], blk := 73728 }
def declaw08_Great_n0 (s : St) : Option (Ilaw08_Great_n0 × Vlaw08_Great_n0) := match s with
  | { env := [(0, AV.ro (Ty.st (Ty.pair (Ty.int IntKind.i64) (Ty.pair (Ty.int IntKind.i64) (Ty.pair Ty.str (Ty.list (Ty.int IntKind.i64)))))) t0), (3, AV.int IntKind.i64 t3), (4, AV.int IntKind.i64 t4)], stk := [[]], H := [], blk := 73728 } => some (t0, (t3, t4))
  | _ => none
theorem declaw08_Great_n0_ok (s : St) (x : Ilaw08_Great_n0 × Vlaw08_Great_n0) (h : declaw08_Great_n0 s = some x) : s = Slaw08_Great_n0 x.1 x.2 := by
  unfold declaw08_Great_n0 at h
  split at h
  · cases h; rfl
  · cases h
def outlaw08_Great_n0 : Ilaw08_Great_n0 → (Ex → St → Ans) → Ylaw08_Great_n0 → Ans := fun t0 K => (Sum.elim (fun _ => K (Ex.ret) { env := [(2, AV.bool (true))], stk := [[]], H := [], blk := 73729 }) (fun t3_y => K (Ex.exit 0) { env := [(3, AV.int IntKind.i64 t3_y)], stk := [[]], H := [], blk := 73728 }))
def steplaw08_Great_n0 {β : Type} : Ilaw08_Great_n0 → Vlaw08_Great_n0 → (Vlaw08_Great_n0 → Option β) → (Ylaw08_Great_n0 → Option β) → Option β := fun t0 (t3, t4) next exit => (bif decide (t4 < (↑(List.length t0) : Int)) then (bindO (nodeDlaw08_Great_n1 (t0, t3, t4)) (Sum.elim (fun _ => (exit (Sum.inl ()))) (fun t3_2 => (next (t3_2, IntKind.wrap IntKind.i64 (t4 + (1 : Int))))))) else (exit (Sum.inr (t3))))
def stepDlaw08_Great_n0 (i : Ilaw08_Great_n0) (v : Vlaw08_Great_n0) : Option (Vlaw08_Great_n0 ⊕ Ylaw08_Great_n0) := steplaw08_Great_n0 i v (fun v => some (.inl v)) (fun y => some (.inr y))
theorem steplaw08_Great_n0_nat (i : Ilaw08_Great_n0) (v : Vlaw08_Great_n0) (next : Vlaw08_Great_n0 → Ans) (exit : Ylaw08_Great_n0 → Ans) : steplaw08_Great_n0 i v next exit = bindO (stepDlaw08_Great_n0 i v) (Sum.elim next exit) := by
  obtain z := i
  obtain ⟨t3, t4⟩ := v
  simp only [stepDlaw08_Great_n0, steplaw08_Great_n0, bindO_cond, bindO_assoc, bindO_none, bindO_pure, bindO_elim, bindO_unP, Sum.elim_inl, Sum.elim_inr]
theorem steplaw08_Great_n0_ok (n : Nat) (i : Ilaw08_Great_n0) (v : Vlaw08_Great_n0) (K : Ex → St → Ans) : codeI Try.tab envlaw08_Great noHint (codeD Try.tab envlaw08_Great noHint 0 64) (n+1) 41 annLlaw08_Great_n0 (.loop Llaw08_Great_n0) (weakP 0 (exk [3] [2] [(0, [3])]) K) (Slaw08_Great_n0 i v) = steplaw08_Great_n0 i v (fun v' => codeI Try.tab envlaw08_Great noHint (codeD Try.tab envlaw08_Great noHint 0 64) n 41 annLlaw08_Great_n0 (.loop Llaw08_Great_n0) (weakP 0 (exk [3] [2] [(0, [3])]) K) (Slaw08_Great_n0 i v')) (fun y => outlaw08_Great_n0 i K y) := by kernel_rfl
theorem GNlaw08_Great_n0_ok : CSum Try.prog 41 (.loop Llaw08_Great_n0) (sumL declaw08_Great_n0 stepDlaw08_Great_n0 outlaw08_Great_n0) := csum_loop mixed tabOk envlaw08_GreatOk 0 (exk [3] [2] [(0, [3])]) annLlaw08_Great_n0_ok declaw08_Great_n0_ok steplaw08_Great_n0_ok steplaw08_Great_n0_nat
noncomputable def Glaw08_Great_n0 : (Ex → St → Ans) → St → Ans := (sumL declaw08_Great_n0 stepDlaw08_Great_n0 outlaw08_Great_n0)
theorem Glaw08_Great_n0_ok : CSum Try.prog 41 (.loop Llaw08_Great_n0) Glaw08_Great_n0 := GNlaw08_Great_n0_ok
noncomputable def annlaw08_Great : Ann := (.seq .none (.seq .none (.seq (.seq .none (.block (.cut 0 [0, 3, 4] Glaw08_Great_n0))) .none)))
theorem annlaw08_Great_ok : AnnOk Try.prog 41 blaw08_Great annlaw08_Great := ⟨(annOk_none _ _ _), ⟨(annOk_none _ _ _), ⟨⟨(annOk_none _ _ _), Glaw08_Great_n0_ok⟩, (annOk_none _ _ _)⟩⟩⟩
abbrev Alaw08_Great := (List (Int × Int × List UInt8 × List Int))
abbrev Ylaw08_Great := (Bool)
def fnlaw08_Great {β : Type} : Alaw08_Great → (Ylaw08_Great → Option β) → Option β := fun a0 exit => (bindO (loopD (stepDlaw08_Great_n0 (a0)) FUEL ((0 : Int), (0 : Int))) (Sum.elim (fun _ => (exit (true))) (fun t3 => (exit (decide (t3 > (3000 : Int)))))))
def fnDlaw08_Great (a : Alaw08_Great) : Option Ylaw08_Great := fnlaw08_Great a some
theorem fnlaw08_Great_nat (a : Alaw08_Great) (k : Ylaw08_Great → Ans) : fnlaw08_Great a k = bindO (fnDlaw08_Great a) k := by
  obtain z := a
  simp only [fnDlaw08_Great, fnlaw08_Great, bindO_cond, bindO_assoc, bindO_none, bindO_pure, bindO_elim, bindO_unP]
def argslaw08_Great : Alaw08_Great → List AV := fun a0 => [AV.ro (Ty.st (Ty.pair (Ty.int IntKind.i64) (Ty.pair (Ty.int IntKind.i64) (Ty.pair Ty.str (Ty.list (Ty.int IntKind.i64)))))) a0]
def decAlaw08_Great (l : List AV) : Option Alaw08_Great := match l with
  | [AV.ro (Ty.st (Ty.pair (Ty.int IntKind.i64) (Ty.pair (Ty.int IntKind.i64) (Ty.pair Ty.str (Ty.list (Ty.int IntKind.i64)))))) a0] => some (a0)
  | _ => none
theorem decAlaw08_Great_ok (l : List AV) (a : Alaw08_Great) (h : decAlaw08_Great l = some a) : l = argslaw08_Great a := by
  unfold decAlaw08_Great at h
  split at h
  · cases h; rfl
  · cases h
def rendlaw08_Great : Alaw08_Great → Ylaw08_Great → AV := fun a0 => fun r_y => AV.bool r_y
theorem rendlaw08_Great_ok : ∀ (a : Alaw08_Great) (y : Ylaw08_Great), (rendlaw08_Great a y).closed1 = true := by
  rintro z y <;> first | rfl | exact Empty.elim y
theorem fnlaw08_Great_ok (a : Alaw08_Great) : fnE Try.tab envlaw08_Great noHint 0 70 18 Try.f18.ntmps Try.f18.results.toList annlaw08_Great blaw08_Great (argslaw08_Great a) [] (fun v _ => some (v, [])) = fnlaw08_Great a (fun y => some (rendlaw08_Great a y, [])) := by kernel_rfl
def vFlaw08_Great (a : Alaw08_Great) (K : AV → Ans) : Ans := bindO (fnDlaw08_Great a) fun y => K (rendlaw08_Great a y)
def Flaw08_Great : List AV → (AV → Ans) → Ans := fun l K => bindO (decAlaw08_Great l) fun a => vFlaw08_Great a K
theorem Flaw08_Great_ok : PureOk Try.prog 18 Flaw08_Great := pure_mkD (hint := noHint) (d := 0) (n := 70) mixed tabOk envlaw08_GreatOk Try.func18 (bodySome (by kernel_rfl)) (by decide +kernel) annlaw08_Great_ok decAlaw08_Great_ok fnlaw08_Great_ok fnlaw08_Great_nat rendlaw08_Great_ok
--@ ref08_New
noncomputable def envref08_New : Env := []
theorem envref08_NewOk : EnvOk Try.prog envref08_New := EnvOk.nil
noncomputable def bref08_New : Code := Try.f19.body.getD .skip
noncomputable def Lref08_New_n0 : Code := codeAt [1, 1, 0, 1, 0, 0] bref08_New
noncomputable def annLref08_New_n0 : Ann := .at 0 [0, 3, 4] (.loop .none)
theorem annLref08_New_n0_ok : AnnOk Try.prog 35 (.loop Lref08_New_n0) annLref08_New_n0 := annOk_at (annOk_none _ _ _)
abbrev Iref08_New_n0 := (Int)
abbrev Yref08_New_n0 := (List (List UInt8))
abbrev Vref08_New_n0 := (Int) × (List (List UInt8))
def Sref08_New_n0 : Iref08_New_n0 → Vref08_New_n0 → St := fun t0 (t4, o1) => { env := [(0, AV.int IntKind.i64 t0), (3, AV.ptr 0 0), (4, AV.int IntKind.i64 t4)], stk := [[]], H := [AE.Obj.cells [AV.own 1, AV.own 2, AV.own 3, AV.int IntKind.i64 (0), AV.own 4, AV.int IntKind.i64 (0), AV.bool (false)], Obj.arr Ty.str o1, Obj.arr Ty.str ([]), Obj.arr (Ty.st (Ty.pair (Ty.int IntKind.i64) Ty.str)) ([]), Obj.arr (Ty.int IntKind.i64) ([])], blk := 77824 }
def decref08_New_n0 (s : St) : Option (Iref08_New_n0 × Vref08_New_n0) := match s with
  | { env := [(0, AV.int IntKind.i64 t0), (3, AV.ptr 0 0), (4, AV.int IntKind.i64 t4)], stk := [[]], H := [AE.Obj.cells [AV.own 1, AV.own 2, AV.own 3, AV.int IntKind.i64 r2, AV.own 4, AV.int IntKind.i64 r3, AV.bool r4], Obj.arr Ty.str o1, Obj.arr Ty.str r6, Obj.arr (Ty.st (Ty.pair (Ty.int IntKind.i64) Ty.str)) r7, Obj.arr (Ty.int IntKind.i64) r8], blk := 77824 } => cond (decide (r2 = 0) && decide (r3 = 0) && decide (r4 = false) && decide (r6 = []) && decide (r7 = []) && decide (r8 = [])) (some (t0, (t4, o1))) none
  | _ => none
theorem decref08_New_n0_ok (s : St) (x : Iref08_New_n0 × Vref08_New_n0) (h : decref08_New_n0 s = some x) : s = Sref08_New_n0 x.1 x.2 := by
  unfold decref08_New_n0 at h
  split at h
  · replace h := cond_noneO h; obtain ⟨hg, h⟩ := h; simp only [Bool.and_eq_true, decide_eq_true_eq] at hg; simp only [hg]; cases h; rfl
  · cases h
def outref08_New_n0 : Iref08_New_n0 → (Ex → St → Ans) → Yref08_New_n0 → Ans := fun t0 K => fun o1_y => K (Ex.exit 0) { env := [(3, AV.ptr 0 0)], stk := [[]], H := [AE.Obj.cells [AV.own 1, AV.own 2, AV.own 3, AV.int IntKind.i64 (0), AV.own 4, AV.int IntKind.i64 (0), AV.bool (false)], Obj.arr Ty.str o1_y, Obj.arr Ty.str ([]), Obj.arr (Ty.st (Ty.pair (Ty.int IntKind.i64) Ty.str)) ([]), Obj.arr (Ty.int IntKind.i64) ([])], blk := 77824 }
def stepref08_New_n0 {β : Type} : Iref08_New_n0 → Vref08_New_n0 → (Vref08_New_n0 → Option β) → (Yref08_New_n0 → Option β) → Option β := fun t0 (t4, o1) next exit => (bif decide (t4 < if (1000 : Int) < if (0 : Int) > t0 then (0 : Int) else t0 then (1000 : Int) else if (0 : Int) > t0 then (0 : Int) else t0) then (bif Nat.ble ((List.length o1 + (1 : Nat)) * (16 : Nat)) (140737488355328 : Nat) then (next (IntKind.wrap IntKind.i64 (t4 + (1 : Int)), o1 ++ [[(0 : UInt8), (0 : UInt8), (0 : UInt8), (0 : UInt8), (0 : UInt8), (0 : UInt8), (0 : UInt8), (0 : UInt8), (0 : UInt8), (0 : UInt8), (0 : UInt8), (0 : UInt8), (0 : UInt8), (0 : UInt8), (0 : UInt8), (0 : UInt8), (0 : UInt8), (0 : UInt8), (0 : UInt8), (0 : UInt8), (0 : UInt8), (0 : UInt8), (0 : UInt8), (0 : UInt8), (0 : UInt8), (0 : UInt8), (0 : UInt8), (0 : UInt8), (0 : UInt8), (0 : UInt8), (0 : UInt8), (0 : UInt8), (0 : UInt8), (0 : UInt8), (0 : UInt8), (0 : UInt8), (0 : UInt8), (0 : UInt8), (0 : UInt8), (0 : UInt8), (0 : UInt8), (0 : UInt8), (0 : UInt8), (0 : UInt8), (0 : UInt8), (0 : UInt8), (0 : UInt8), (0 : UInt8), (0 : UInt8), (0 : UInt8), (0 : UInt8), (0 : UInt8), (0 : UInt8), (0 : UInt8), (0 : UInt8), (0 : UInt8), (0 : UInt8), (0 : UInt8), (0 : UInt8), (0 : UInt8), (0 : UInt8), (0 : UInt8), (0 : UInt8), (0 : UInt8)]])) else none) else (exit (o1)))
def stepDref08_New_n0 (i : Iref08_New_n0) (v : Vref08_New_n0) : Option (Vref08_New_n0 ⊕ Yref08_New_n0) := stepref08_New_n0 i v (fun v => some (.inl v)) (fun y => some (.inr y))
theorem stepref08_New_n0_nat (i : Iref08_New_n0) (v : Vref08_New_n0) (next : Vref08_New_n0 → Ans) (exit : Yref08_New_n0 → Ans) : stepref08_New_n0 i v next exit = bindO (stepDref08_New_n0 i v) (Sum.elim next exit) := by
  obtain z := i
  obtain ⟨t4, o1⟩ := v
  simp only [stepDref08_New_n0, stepref08_New_n0, bindO_cond, bindO_assoc, bindO_none, bindO_pure, bindO_elim, bindO_unP, Sum.elim_inl, Sum.elim_inr]
theorem stepref08_New_n0_ok (n : Nat) (i : Iref08_New_n0) (v : Vref08_New_n0) (K : Ex → St → Ans) : codeI Try.tab envref08_New noHint (codeD Try.tab envref08_New noHint 0 64) (n+1) 35 annLref08_New_n0 (.loop Lref08_New_n0) (weakP 0 (exk [3] [2] [(0, [3])]) K) (Sref08_New_n0 i v) = stepref08_New_n0 i v (fun v' => codeI Try.tab envref08_New noHint (codeD Try.tab envref08_New noHint 0 64) n 35 annLref08_New_n0 (.loop Lref08_New_n0) (weakP 0 (exk [3] [2] [(0, [3])]) K) (Sref08_New_n0 i v')) (fun y => outref08_New_n0 i K y) := by kernel_rfl
theorem GNref08_New_n0_ok : CSum Try.prog 35 (.loop Lref08_New_n0) (sumL decref08_New_n0 stepDref08_New_n0 outref08_New_n0) := csum_loop mixed tabOk envref08_NewOk 0 (exk [3] [2] [(0, [3])]) annLref08_New_n0_ok decref08_New_n0_ok stepref08_New_n0_ok stepref08_New_n0_nat
noncomputable def Gref08_New_n0 : (Ex → St → Ans) → St → Ans := (sumL decref08_New_n0 stepDref08_New_n0 outref08_New_n0)
theorem Gref08_New_n0_ok : CSum Try.prog 35 (.loop Lref08_New_n0) Gref08_New_n0 := GNref08_New_n0_ok
noncomputable def annref08_New : Ann := (.seq .none (.seq .none (.seq (.seq .none (.block (.cut 0 [0, 3, 4] Gref08_New_n0))) .none)))
theorem annref08_New_ok : AnnOk Try.prog 35 bref08_New annref08_New := ⟨(annOk_none _ _ _), ⟨(annOk_none _ _ _), ⟨⟨(annOk_none _ _ _), Gref08_New_n0_ok⟩, (annOk_none _ _ _)⟩⟩⟩
abbrev Aref08_New := (Int)
abbrev Yref08_New := (List (List UInt8)) × (List (List UInt8))
def fnref08_New {β : Type} : Aref08_New → (Yref08_New → Option β) → Option β := fun a0 exit => (bindO (loopD (stepDref08_New_n0 (a0)) FUEL ((0 : Int), [])) fun o1 => (bif Nat.ble (((0 : Nat) + List.length o1) * (16 : Nat)) (140737488355328 : Nat) then (exit (o1, o1)) else none))
def fnDref08_New (a : Aref08_New) : Option Yref08_New := fnref08_New a some
theorem fnref08_New_nat (a : Aref08_New) (k : Yref08_New → Ans) : fnref08_New a k = bindO (fnDref08_New a) k := by
  obtain z := a
  simp only [fnDref08_New, fnref08_New, bindO_cond, bindO_assoc, bindO_none, bindO_pure, bindO_elim, bindO_unP]
def argsref08_New : Aref08_New → List AV × List AE.Obj := fun a0 => ([AV.int IntKind.i64 a0], [])
def decAref08_New (l : List AV) (H : List AE.Obj) : Option Aref08_New := match l, H with
  | [AV.int IntKind.i64 a0], [] => some (a0)
  | _, _ => none
theorem decAref08_New_ok (l : List AV) (H : List AE.Obj) (a : Aref08_New) (h : decAref08_New l H = some a) : (l, H) = argsref08_New a := by
  unfold decAref08_New at h
  split at h
  · cases h; rfl
  · cases h
def outref08_New : Aref08_New → (AV → List AE.Obj → Ans) → Yref08_New → Ans := fun a0 K => unP fun o1_y o2_y => K (AV.ptr 0 0) [AE.Obj.cells [AV.own 1, AV.own 2, AV.own 3, AV.int IntKind.i64 (0), AV.own 4, AV.int IntKind.i64 (0), AV.bool (false)], Obj.arr Ty.str o1_y, Obj.arr Ty.str o2_y, Obj.arr (Ty.st (Ty.pair (Ty.int IntKind.i64) Ty.str)) ([]), Obj.arr (Ty.int IntKind.i64) ([])]
theorem fnref08_New_ok (a : Aref08_New) (K : AV → List AE.Obj → Ans) : fnE Try.tab envref08_New noHint 0 70 19 Try.f19.ntmps Try.f19.results.toList annref08_New bref08_New (argsref08_New a).1 (argsref08_New a).2 K = fnref08_New a (outref08_New a K) := by kernel_rfl
def vFref08_New (a : Aref08_New) (K : AV → List AE.Obj → Ans) : Ans := bindO (fnDref08_New a) fun y => outref08_New a K y
def Fref08_New : List AV → List AE.Obj → (AV → List AE.Obj → Ans) → Ans := fun l H K => bindO (decAref08_New l H) fun a => vFref08_New a K
theorem Fref08_New_ok : FuncOk Try.prog 19 Fref08_New := func_mkD (hint := noHint) (d := 0) (n := 70) mixed tabOk envref08_NewOk Try.func19 (bodySome (by kernel_rfl)) (by decide +kernel) annref08_New_ok decAref08_New_ok fnref08_New_ok fnref08_New_nat
--@ ref08_has
noncomputable def envref08_has : Env := []
theorem envref08_hasOk : EnvOk Try.prog envref08_has := EnvOk.nil
noncomputable def bref08_has : Code := Try.f84.body.getD .skip
noncomputable def Lref08_has_n0 : Code := codeAt [1, 0, 1, 0, 0] bref08_has
noncomputable def annLref08_has_n0 : Ann := .at 0 [0, 1, 5] (.loop .none)
theorem annLref08_has_n0_ok : AnnOk Try.prog 18 (.loop Lref08_has_n0) annLref08_has_n0 := annOk_at (annOk_none _ _ _)
abbrev Iref08_has_n0 := (List Int) × (Int)
abbrev Yref08_has_n0 := (Unit) ⊕ (Unit)
abbrev Vref08_has_n0 := (Int)
def Sref08_has_n0 : Iref08_has_n0 → Vref08_has_n0 → St := fun (t0, t1) t5 => { env := [(0, AV.ro (Ty.int IntKind.i64) t0), (1, AV.int IntKind.i64 t1), (5, AV.int IntKind.i64 t5)], stk := [[]], H := [], blk := 344064 }
def decref08_has_n0 (s : St) : Option (Iref08_has_n0 × Vref08_has_n0) := match s with
  | { env := [(0, AV.ro (Ty.int IntKind.i64) t0), (1, AV.int IntKind.i64 t1), (5, AV.int IntKind.i64 t5)], stk := [[]], H := [], blk := 344064 } => some ((t0, t1), t5)
  | _ => none
theorem decref08_has_n0_ok (s : St) (x : Iref08_has_n0 × Vref08_has_n0) (h : decref08_has_n0 s = some x) : s = Sref08_has_n0 x.1 x.2 := by
  unfold decref08_has_n0 at h
  split at h
  · cases h; rfl
  · cases h
def outref08_has_n0 : Iref08_has_n0 → (Ex → St → Ans) → Yref08_has_n0 → Ans := fun (t0, t1) K => (Sum.elim (fun _ => K (Ex.ret) { env := [(4, AV.bool (true))], stk := [[]], H := [], blk := 344065 }) (fun _ => K (Ex.exit 0) { env := [], stk := [[]], H := [], blk := 344064 }))
def stepref08_has_n0 {β : Type} : Iref08_has_n0 → Vref08_has_n0 → (Vref08_has_n0 → Option β) → (Yref08_has_n0 → Option β) → Option β := fun (t0, t1) t5 next exit => (bif decide (t5 < (↑(List.length t0) : Int)) then (bindO (nth t0 t5) fun x => (bif x == t1 then (exit (Sum.inl ())) else (next (IntKind.wrap IntKind.i64 (t5 + (1 : Int)))))) else (exit (Sum.inr ())))
def stepDref08_has_n0 (i : Iref08_has_n0) (v : Vref08_has_n0) : Option (Vref08_has_n0 ⊕ Yref08_has_n0) := stepref08_has_n0 i v (fun v => some (.inl v)) (fun y => some (.inr y))
theorem stepref08_has_n0_nat (i : Iref08_has_n0) (v : Vref08_has_n0) (next : Vref08_has_n0 → Ans) (exit : Yref08_has_n0 → Ans) : stepref08_has_n0 i v next exit = bindO (stepDref08_has_n0 i v) (Sum.elim next exit) := by
  obtain ⟨t0, t1⟩ := i
  obtain z := v
  simp only [stepDref08_has_n0, stepref08_has_n0, bindO_cond, bindO_assoc, bindO_none, bindO_pure, bindO_elim, bindO_unP, Sum.elim_inl, Sum.elim_inr]
theorem stepref08_has_n0_ok (n : Nat) (i : Iref08_has_n0) (v : Vref08_has_n0) (K : Ex → St → Ans) : codeI Try.tab envref08_has noHint (codeD Try.tab envref08_has noHint 0 64) (n+1) 18 annLref08_has_n0 (.loop Lref08_has_n0) (weakP 0 (exk [] [4] [(0, [])]) K) (Sref08_has_n0 i v) = stepref08_has_n0 i v (fun v' => codeI Try.tab envref08_has noHint (codeD Try.tab envref08_has noHint 0 64) n 18 annLref08_has_n0 (.loop Lref08_has_n0) (weakP 0 (exk [] [4] [(0, [])]) K) (Sref08_has_n0 i v')) (fun y => outref08_has_n0 i K y) := by kernel_rfl
theorem GNref08_has_n0_ok : CSum Try.prog 18 (.loop Lref08_has_n0) (sumL decref08_has_n0 stepDref08_has_n0 outref08_has_n0) := csum_loop mixed tabOk envref08_hasOk 0 (exk [] [4] [(0, [])]) annLref08_has_n0_ok decref08_has_n0_ok stepref08_has_n0_ok stepref08_has_n0_nat
noncomputable def Gref08_has_n0 : (Ex → St → Ans) → St → Ans := (sumL decref08_has_n0 stepDref08_has_n0 outref08_has_n0)
theorem Gref08_has_n0_ok : CSum Try.prog 18 (.loop Lref08_has_n0) Gref08_has_n0 := GNref08_has_n0_ok
noncomputable def annref08_has : Ann := (.seq .none (.seq (.seq .none (.block (.cut 0 [0, 1, 5] Gref08_has_n0))) .none))
theorem annref08_has_ok : AnnOk Try.prog 18 bref08_has annref08_has := ⟨(annOk_none _ _ _), ⟨⟨(annOk_none _ _ _), Gref08_has_n0_ok⟩, (annOk_none _ _ _)⟩⟩
abbrev Aref08_has := (List Int) × (Int)
abbrev Yref08_has := (Bool)
def fnref08_has {β : Type} : Aref08_has → (Yref08_has → Option β) → Option β := fun (a0, a1) exit => (bindO (loopD (stepDref08_has_n0 (a0, a1)) FUEL ((0 : Int))) (Sum.elim (fun _ => (exit (true))) (fun _ => (exit (false)))))
def fnDref08_has (a : Aref08_has) : Option Yref08_has := fnref08_has a some
theorem fnref08_has_nat (a : Aref08_has) (k : Yref08_has → Ans) : fnref08_has a k = bindO (fnDref08_has a) k := by
  obtain ⟨a0, a1⟩ := a
  simp only [fnDref08_has, fnref08_has, bindO_cond, bindO_assoc, bindO_none, bindO_pure, bindO_elim, bindO_unP]
def argsref08_has : Aref08_has → List AV := fun (a0, a1) => [AV.ro (Ty.int IntKind.i64) a0, AV.int IntKind.i64 a1]
def decAref08_has (l : List AV) : Option Aref08_has := match l with
  | [AV.ro (Ty.int IntKind.i64) a0, AV.int IntKind.i64 a1] => some (a0, a1)
  | _ => none
theorem decAref08_has_ok (l : List AV) (a : Aref08_has) (h : decAref08_has l = some a) : l = argsref08_has a := by
  unfold decAref08_has at h
  split at h
  · cases h; rfl
  · cases h
def rendref08_has : Aref08_has → Yref08_has → AV := fun (a0, a1) => fun r_y => AV.bool r_y
theorem rendref08_has_ok : ∀ (a : Aref08_has) (y : Yref08_has), (rendref08_has a y).closed1 = true := by
  rintro ⟨a0, a1⟩ y <;> first | rfl | exact Empty.elim y
theorem fnref08_has_ok (a : Aref08_has) : fnE Try.tab envref08_has noHint 0 70 84 Try.f84.ntmps Try.f84.results.toList annref08_has bref08_has (argsref08_has a) [] (fun v _ => some (v, [])) = fnref08_has a (fun y => some (rendref08_has a y, [])) := by kernel_rfl
def vFref08_has (a : Aref08_has) (K : AV → Ans) : Ans := bindO (fnDref08_has a) fun y => K (rendref08_has a y)
def Fref08_has : List AV → (AV → Ans) → Ans := fun l K => bindO (decAref08_has l) fun a => vFref08_has a K
theorem Fref08_has_ok : PureOk Try.prog 84 Fref08_has := pure_mkD (hint := noHint) (d := 0) (n := 70) mixed tabOk envref08_hasOk Try.func84 (bodySome (by kernel_rfl)) (by decide +kernel) annref08_has_ok decAref08_has_ok fnref08_has_ok fnref08_has_nat rendref08_has_ok
end Go.Proofs.R3

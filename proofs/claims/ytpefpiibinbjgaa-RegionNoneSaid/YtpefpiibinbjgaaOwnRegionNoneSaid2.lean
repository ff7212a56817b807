/- What the functions that RegionNoneSaid reaches compute: part 2. -/
import Derived.Test.YtpefpiibinbjgaaAe4
import Derived.Test.YtpefpiibinbjgaaProg
import Derived.Test.YtpefpiibinbjgaaChecked
import Derived.Eval
import Derived.Shelf.Strings.Builder1
import Derived.Shelf.Strings.Builder2
import Derived.Shelf.Strings.BuilderF
import Derived.Shelf.Strings.Prefix
import Derived.Shelf.Bits.Mul64
import Derived.Shelf.Strings.Repeat
set_option linter.unusedVariables false
set_option linter.unusedSimpArgs false
namespace Go.Proofs
instance Try.bt : Go.AE.BT := ⟨5, 104⟩
def Try.tab : Go.AE.Tab := [
  (1, ⟨.sc, 1, 8, [.nilf], none⟩),
  (2, ⟨.sc, 1, 8, [.int .i64 0], some (.int .i64)⟩),
  (3, ⟨.sc, 1, 8, [.int .i64 0], some (.int .i64)⟩),
  (4, ⟨.sc, 1, 1, [.bool false], some .bool⟩),
  (5, ⟨.sc, 1, 1, [.int .u8 0], some (.int .u8)⟩),
  (7, ⟨.struct [(2, 0), (3, 1), (4, 2), (6, 3)], 4, 24, [.int .i64 0, .int .i64 0, .bool false, .int .u8 0], some (.st (.pair (.int .i64) (.pair (.int .i64) (.pair .bool (.int .u8)))))⟩),
  (9, ⟨.sc, 1, 16, [.str []], some .str⟩),
  (12, ⟨.sc, 1, 8, [.int .u64 0], some (.int .u64)⟩),
  (20, ⟨.sc, 1, 16, [.nili], none⟩),
  (21, ⟨.sc, 1, 4, [.int .i32 0], some (.int .i32)⟩),
  (22, ⟨.slice 32, 1, 24, [.nils], some (.list (.st (.pair (.int .i64) .str)))⟩),
  (23, ⟨.slice 3, 1, 24, [.nils], some (.list (.int .i64))⟩),
  (24, ⟨.sc, 1, 8, [.nilf], none⟩),
  (25, ⟨.ptr 93, 1, 8, [.nilp], none⟩),
  (26, ⟨.sc, 1, 8, [.nilf], none⟩),
  (27, ⟨.array 8 9, 8, 128, [.str [], .str [], .str [], .str [], .str [], .str [], .str [], .str []], some (.st (.pair .str (.pair .str (.pair .str (.pair .str (.pair .str (.pair .str (.pair .str .str))))))))⟩),
  (28, ⟨.slice 5, 1, 24, [.nils], some (.list (.int .u8))⟩),
  (29, ⟨.sc, 1, 8, [.int .i64 0], some (.int .i64)⟩),
  (30, ⟨.sc, 1, 8, [.nilf], none⟩),
  (31, ⟨.struct [(3, 0), (9, 1)], 2, 24, [.int .i64 0, .str []], some (.st (.pair (.int .i64) .str))⟩),
  (32, ⟨.struct [(3, 0), (9, 1)], 2, 24, [.int .i64 0, .str []], some (.st (.pair (.int .i64) .str))⟩),
  (33, ⟨.sc, 1, 8, [.nilf], none⟩),
  (34, ⟨.sc, 1, 8, [.nilf], none⟩),
  (35, ⟨.sc, 1, 8, [.nilf], none⟩),
  (37, ⟨.sc, 1, 8, [.nilf], none⟩),
  (38, ⟨.sc, 1, 8, [.nilf], none⟩),
  (39, ⟨.slice 45, 1, 24, [.nils], some (.list (.st (.pair (.int .i64) (.pair (.int .i64) (.pair .str (.list (.int .i64)))))))⟩),
  (40, ⟨.sc, 1, 8, [.nilf], none⟩),
  (41, ⟨.ptr 48, 1, 8, [.nilp], none⟩),
  (42, ⟨.sc, 1, 8, [.nilf], none⟩),
  (43, ⟨.sc, 1, 8, [.nilf], none⟩),
  (44, ⟨.struct [(3, 0), (3, 1), (9, 2), (23, 3)], 4, 56, [.int .i64 0, .int .i64 0, .str [], .nils], some (.st (.pair (.int .i64) (.pair (.int .i64) (.pair .str (.list (.int .i64))))))⟩),
  (45, ⟨.struct [(3, 0), (3, 1), (9, 2), (23, 3)], 4, 56, [.int .i64 0, .int .i64 0, .str [], .nils], some (.st (.pair (.int .i64) (.pair (.int .i64) (.pair .str (.list (.int .i64))))))⟩),
  (46, ⟨.slice 9, 1, 24, [.nils], some (.list .str)⟩),
  (47, ⟨.struct [(46, 0), (46, 1), (22, 2), (3, 3), (23, 4), (3, 5), (4, 6)], 7, 120, [.nils, .nils, .nils, .int .i64 0, .nils, .int .i64 0, .bool false], some (.st (.pair (.list .str) (.pair (.list .str) (.pair (.list (.st (.pair (.int .i64) .str))) (.pair (.int .i64) (.pair (.list (.int .i64)) (.pair (.int .i64) .bool)))))))⟩),
  (48, ⟨.struct [(46, 0), (46, 1), (22, 2), (3, 3), (23, 4), (3, 5), (4, 6)], 7, 120, [.nils, .nils, .nils, .int .i64 0, .nils, .int .i64 0, .bool false], some (.st (.pair (.list .str) (.pair (.list .str) (.pair (.list (.st (.pair (.int .i64) .str))) (.pair (.int .i64) (.pair (.list (.int .i64)) (.pair (.int .i64) .bool)))))))⟩),
  (49, ⟨.sc, 1, 8, [.nilf], none⟩),
  (50, ⟨.sc, 1, 8, [.nilf], none⟩),
  (51, ⟨.sc, 1, 8, [.nilf], none⟩),
  (52, ⟨.ptr 101, 1, 8, [.nilp], none⟩),
  (54, ⟨.sc, 1, 8, [.nilf], none⟩),
  (55, ⟨.sc, 1, 8, [.nilf], none⟩),
  (56, ⟨.sc, 1, 8, [.nilf], none⟩),
  (57, ⟨.sc, 1, 8, [.nilf], none⟩),
  (59, ⟨.sc, 1, 8, [.nilf], none⟩),
  (61, ⟨.sc, 1, 8, [.nilf], none⟩),
  (62, ⟨.sc, 1, 8, [.nilf], none⟩),
  (63, ⟨.ptr 112, 1, 8, [.nilp], none⟩),
  (64, ⟨.sc, 1, 8, [.nilf], none⟩),
  (65, ⟨.sc, 1, 8, [.nilf], none⟩),
  (67, ⟨.sc, 1, 8, [.nilf], none⟩),
  (68, ⟨.sc, 1, 8, [.nilf], none⟩),
  (69, ⟨.slice 77, 1, 24, [.nils], some (.list (.st (.pair (.int .i64) (.pair (.int .i64) (.int .i64)))))⟩),
  (70, ⟨.ptr 118, 1, 8, [.nilp], none⟩),
  (71, ⟨.sc, 1, 8, [.nilf], none⟩),
  (72, ⟨.ptr 75, 1, 8, [.nilp], none⟩),
  (73, ⟨.slice 81, 1, 24, [.nils], some (.list (.st (.pair (.int .i64) (.int .i64))))⟩),
  (74, ⟨.struct [(73, 0), (73, 1)], 2, 48, [.nils, .nils], some (.st (.pair (.list (.st (.pair (.int .i64) (.int .i64)))) (.list (.st (.pair (.int .i64) (.int .i64))))))⟩),
  (75, ⟨.struct [(73, 0), (73, 1)], 2, 48, [.nils, .nils], some (.st (.pair (.list (.st (.pair (.int .i64) (.int .i64)))) (.list (.st (.pair (.int .i64) (.int .i64))))))⟩),
  (76, ⟨.struct [(3, 0), (3, 1), (3, 2)], 3, 24, [.int .i64 0, .int .i64 0, .int .i64 0], some (.st (.pair (.int .i64) (.pair (.int .i64) (.int .i64))))⟩),
  (77, ⟨.struct [(3, 0), (3, 1), (3, 2)], 3, 24, [.int .i64 0, .int .i64 0, .int .i64 0], some (.st (.pair (.int .i64) (.pair (.int .i64) (.int .i64))))⟩),
  (78, ⟨.sc, 1, 8, [.nilf], none⟩),
  (79, ⟨.sc, 1, 8, [.nilf], none⟩),
  (80, ⟨.struct [(3, 0), (3, 1)], 2, 16, [.int .i64 0, .int .i64 0], some (.st (.pair (.int .i64) (.int .i64)))⟩),
  (81, ⟨.struct [(3, 0), (3, 1)], 2, 16, [.int .i64 0, .int .i64 0], some (.st (.pair (.int .i64) (.int .i64)))⟩),
  (83, ⟨.sc, 1, 8, [.nilf], none⟩),
  (84, ⟨.sc, 1, 8, [.nilf], none⟩),
  (85, ⟨.sc, 1, 8, [.nilf], none⟩),
  (86, ⟨.sc, 1, 8, [.nilf], none⟩),
  (87, ⟨.sc, 1, 8, [.nilf], none⟩),
  (88, ⟨.sc, 1, 8, [.nilf], none⟩),
  (89, ⟨.sc, 1, 8, [.nilf], none⟩),
  (90, ⟨.sc, 1, 8, [.nilf], none⟩),
  (91, ⟨.map 3 9, 1, 8, [.nilm], none⟩),
  (92, ⟨.struct [(46, 0), (91, 1), (22, 2), (3, 3), (23, 4), (3, 5), (4, 6)], 7, 104, [.nils, .nilm, .nils, .int .i64 0, .nils, .int .i64 0, .bool false], none⟩),
  (93, ⟨.struct [(46, 0), (91, 1), (22, 2), (3, 3), (23, 4), (3, 5), (4, 6)], 7, 104, [.nils, .nilm, .nils, .int .i64 0, .nils, .int .i64 0, .bool false], none⟩),
  (95, ⟨.sc, 1, 8, [.nilf], none⟩),
  (96, ⟨.sc, 1, 8, [.nilf], none⟩),
  (97, ⟨.sc, 1, 8, [.nilf], none⟩),
  (98, ⟨.sc, 1, 8, [.nilf], none⟩),
  (99, ⟨.sc, 1, 8, [.nilf], none⟩),
  (100, ⟨.struct [(25, 0), (3, 1), (3, 2)], 3, 24, [.nilp, .int .i64 0, .int .i64 0], none⟩),
  (101, ⟨.struct [(25, 0), (3, 1), (3, 2)], 3, 24, [.nilp, .int .i64 0, .int .i64 0], none⟩),
  (102, ⟨.ptr 104, 1, 8, [.nilp], none⟩),
  (103, ⟨.struct [(102, 0), (28, 1)], 2, 32, [.nilp, .nils], none⟩),
  (104, ⟨.struct [(102, 0), (28, 1)], 2, 32, [.nilp, .nils], none⟩),
  (105, ⟨.sc, 1, 16, [.nili], none⟩),
  (106, ⟨.sc, 1, 16, [.nili], none⟩),
  (108, ⟨.sc, 1, 8, [.nilf], none⟩),
  (109, ⟨.sc, 1, 8, [.nilf], none⟩),
  (110, ⟨.map 3 9, 1, 8, [.nilm], none⟩),
  (111, ⟨.struct [(110, 0), (110, 1)], 2, 16, [.nilm, .nilm], none⟩),
  (112, ⟨.struct [(110, 0), (110, 1)], 2, 16, [.nilm, .nilm], none⟩),
  (113, ⟨.sc, 1, 8, [.nilf], none⟩),
  (114, ⟨.sc, 1, 8, [.nilf], none⟩),
  (115, ⟨.map 3 3, 1, 8, [.nilm], none⟩),
  (116, ⟨.map 3 3, 1, 8, [.nilm], none⟩),
  (117, ⟨.struct [(116, 0), (116, 1)], 2, 16, [.nilm, .nilm], none⟩),
  (118, ⟨.struct [(116, 0), (116, 1)], 2, 16, [.nilm, .nilm], none⟩),
  (119, ⟨.sc, 1, 8, [.nilf], none⟩),
  (120, ⟨.sc, 1, 8, [.nilf], none⟩),
  (121, ⟨.sc, 1, 8, [.int .u64 0], some (.int .u64)⟩),
  (123, ⟨.sc, 1, 8, [.nilf], none⟩),
  (124, ⟨.sc, 1, 8, [.nilf], none⟩),
  (125, ⟨.sc, 1, 8, [.nilf], none⟩),
  (126, ⟨.ptr 5, 1, 8, [.nilp], none⟩),
  (127, ⟨.sc, 1, 8, [.nilf], none⟩),
  (128, ⟨.sc, 1, 4, [.int .u32 0], some (.int .u32)⟩),
  (130, ⟨.sc, 1, 8, [.nilf], none⟩),
  (131, ⟨.sc, 1, 8, [.int .u64 0], some (.int .u64)⟩),
  (133, ⟨.sc, 1, 8, [.nilf], none⟩),
  (135, ⟨.sc, 1, 8, [.nilf], none⟩),
  (136, ⟨.sc, 1, 8, [.nilf], none⟩),
  (137, ⟨.sc, 1, 8, [.nilf], none⟩),
  (138, ⟨.sc, 1, 8, [.nilf], none⟩),
  (139, ⟨.sc, 1, 8, [.nilf], none⟩),
  (140, ⟨.sc, 1, 8, [.int .i64 0], some (.int .i64)⟩),
  (142, ⟨.sc, 1, 8, [.nilf], none⟩),
  (143, ⟨.sc, 1, 8, [.nilf], none⟩),
  (144, ⟨.sc, 1, 8, [.nilf], none⟩),
  (145, ⟨.sc, 1, 8, [.nilf], none⟩),
  (146, ⟨.sc, 1, 8, [.nilf], none⟩),
  (147, ⟨.sc, 1, 8, [.nilf], none⟩),
  (148, ⟨.sc, 1, 8, [.int .u64 0], some (.int .u64)⟩),
  (149, ⟨.sc, 1, 8, [.nilf], none⟩),
  (150, ⟨.sc, 1, 8, [.nilf], none⟩),
  (151, ⟨.sc, 1, 8, [.nilf], none⟩),
  (152, ⟨.ptr 3, 1, 8, [.nilp], none⟩),
  (153, ⟨.sc, 1, 8, [.nilf], none⟩),
  (154, ⟨.ptr 148, 1, 8, [.nilp], none⟩),
  (156, ⟨.sc, 1, 8, [.nilf], none⟩),
  (164, ⟨.sc, 1, 8, [.nilf], none⟩)]
end Go.Proofs
namespace Go.Proofs.R3
open Go Go.AE
theorem tabOk : TabOk Try.prog Try.tab := tabOk_of_check (by kernel_rfl)
theorem mixed : Try.prog.follows .mixedOrders = true := Checked.mixed Try.checked
end Go.Proofs.R3
namespace Go.Proofs
open Go.Shelf
def Try.lays212_ren : Go.Shelf.Ren := ⟨fun | 212 => 77 | 263 => 90 | 264 => 91 | n => n, fun | 46 => 121 | 51 => 128 | 146 => 129 | 53 => 131 | 148 => 132 | n => n, fun | n => n⟩
theorem Try.lays212 : Go.Proofs.Lays.n212 Try.prog Try.lays212_ren := {
  mixed := by kernel_rfl
  f212 := Try.func77.trans (congrArg some (by kernel_rfl))
  f263 := Try.func90.trans (congrArg some (by kernel_rfl))
  f264 := Try.func91.trans (congrArg some (by kernel_rfl))
  t46 := Try.underlying121
  a46 := Try.isAgg121
  z46 := Try.sizeOf121
  v46 := Try.zeroValue121
  t51 := Try.underlying128
  a51 := Try.isAgg128
  z51 := Try.sizeOf128
  v51 := Try.zeroValue128
  t53 := Try.underlying131
  a53 := Try.isAgg131
  z53 := Try.sizeOf131
  v53 := Try.zeroValue131
  t146 := Try.underlying129
  a146 := Try.isAgg129
  z146 := Try.sizeOf129
  v146 := Try.zeroValue129
  t148 := Try.underlying132
  a148 := Try.isAgg132
  z148 := Try.sizeOf132
  v148 := Try.zeroValue132 }
open Go.RowKit Go.Lib in

theorem Try.bits_Mul (x y : Nat) (hx : x < 18446744073709551616) (hy : y < 18446744073709551616) (w : World) :
    Calls Try.prog 77 #[.int .u64 x, .int .u64 y] w fun e w' => e = .returned (.tuple #[.int .u64 ((x * y / 18446744073709551616 : Nat) : Int), .int .u64 ((x * y % 18446744073709551616 : Nat) : Int)]) ∧ w' = w := Any.bits_Mul Try.lays212 x y hx hy w
def Try.lays105_ren : Go.Shelf.Ren := ⟨fun | 105 => 58 | 212 => 77 | 99 => 78 | 165 => 79 | 166 => 68 | 170 => 80 | 169 => 69 | 263 => 90 | 264 => 91 | 206 => 92 | 240 => 86 | 241 => 93 | 276 => 94 | 277 => 97 | n => n, fun | 9 => 9 | 3 => 3 | 4 => 4 | 20 => 20 | 0 => 0 | 46 => 121 | 109 => 122 | 5 => 5 | 72 => 104 | 76 => 107 | 51 => 128 | 146 => 129 | 53 => 131 | 148 => 132 | 70 => 102 | 37 => 28 | 75 => 106 | 127 => 126 | 164 => 134 | 80 => 109 | n => n, fun | n => n⟩
theorem Try.lays105 : Go.Proofs.Lays.n105 Try.prog Try.lays105_ren := {
  mixed := by kernel_rfl
  f99 := Try.func78.trans (congrArg some (by kernel_rfl))
  f105 := Try.func58.trans (congrArg some (by kernel_rfl))
  f165 := Try.func79.trans (congrArg some (by kernel_rfl))
  f166 := Try.func68.trans (congrArg some (by kernel_rfl))
  f169 := Try.func69.trans (congrArg some (by kernel_rfl))
  f170 := Try.func80.trans (congrArg some (by kernel_rfl))
  f206 := Try.func92.trans (congrArg some (by kernel_rfl))
  f212 := Try.func77.trans (congrArg some (by kernel_rfl))
  f240 := Try.func86.trans (congrArg some (by kernel_rfl))
  f241 := Try.func93.trans (congrArg some (by kernel_rfl))
  f263 := Try.func90.trans (congrArg some (by kernel_rfl))
  f264 := Try.func91.trans (congrArg some (by kernel_rfl))
  f276 := Try.func94.trans (congrArg some (by kernel_rfl))
  f277 := Try.func97.trans (congrArg some (by kernel_rfl))
  t0 := Try.underlying0
  a0 := Try.isAgg0
  z0 := Try.sizeOf0
  v0 := Try.zeroValue0
  t3 := Try.underlying3
  a3 := Try.isAgg3
  z3 := Try.sizeOf3
  v3 := Try.zeroValue3
  t4 := Try.underlying4
  a4 := Try.isAgg4
  z4 := Try.sizeOf4
  v4 := Try.zeroValue4
  t5 := Try.underlying5
  a5 := Try.isAgg5
  z5 := Try.sizeOf5
  v5 := Try.zeroValue5
  t9 := Try.underlying9
  a9 := Try.isAgg9
  z9 := Try.sizeOf9
  v9 := Try.zeroValue9
  t20 := Try.underlying20
  a20 := Try.isAgg20
  z20 := Try.sizeOf20
  v20 := Try.zeroValue20
  t37 := Try.underlying28
  a37 := Try.isAgg28
  z37 := Try.sizeOf28
  v37 := Try.zeroValue28
  t46 := Try.underlying121
  a46 := Try.isAgg121
  z46 := Try.sizeOf121
  v46 := Try.zeroValue121
  t51 := Try.underlying128
  a51 := Try.isAgg128
  z51 := Try.sizeOf128
  v51 := Try.zeroValue128
  t53 := Try.underlying131
  a53 := Try.isAgg131
  z53 := Try.sizeOf131
  v53 := Try.zeroValue131
  t70 := Try.underlying102
  a70 := Try.isAgg102
  z70 := Try.sizeOf102
  v70 := Try.zeroValue102
  t72 := Try.underlying104
  a72 := Try.isAgg104
  z72 := Try.sizeOf104
  v72 := Try.zeroValue104
  t75 := Try.underlying106
  a75 := Try.isAgg106
  z75 := Try.sizeOf106
  v75 := Try.zeroValue106
  t76 := Try.underlying107
  a76 := Try.isAgg107
  z76 := Try.sizeOf107
  v76 := Try.zeroValue107
  t109 := Try.underlying122
  a109 := Try.isAgg122
  z109 := Try.sizeOf122
  v109 := Try.zeroValue122
  t127 := Try.underlying126
  a127 := Try.isAgg126
  z127 := Try.sizeOf126
  v127 := Try.zeroValue126
  t146 := Try.underlying129
  a146 := Try.isAgg129
  z146 := Try.sizeOf129
  v146 := Try.zeroValue129
  t148 := Try.underlying132
  a148 := Try.isAgg132
  z148 := Try.sizeOf132
  v148 := Try.zeroValue132
  t164 := Try.underlying134
  a164 := Try.isAgg134
  z164 := Try.sizeOf134
  v164 := Try.zeroValue134 }
theorem Try.Builder_Extra_105 : Builder.Extra Try.prog Try.lays105_ren := {
  sizeBuilder := by kernel_rfl
  liesBuilder := by kernel_rfl
  t5 := Try.underlying5
  a5 := Try.isAgg5
  z5 := Try.sizeOf5
  v5 := Try.zeroValue5
  infoByte := by kernel_rfl
  cellsByte := by kernel_rfl
  sizeByte := by kernel_rfl
  neB5 := by decide }
open Go.RowKit Go.Lib in

theorem Try.strings_Repeat (s : ByteArray) (c : Nat) (w : World) (hc : c ≤ 9223372036854775807) (hlen : s.size * c ≤ 140737488355328) :
    Calls Try.prog 58 #[.string s, .int .i64 c] w fun e w' => e = .returned (.string ⟨(Lib.repeatL s.data.toList c).toArray⟩) ∧ Below w.heap.size w w' := Any.strings_Repeat Try.lays105 Try.Builder_Extra_105 s c w hc hlen
end Go.Proofs
namespace Go.Proofs.R3
open Go Go.AE
theorem Fstrings_Repeat_ok : PureOk Try.prog 58 Fstrings_Repeat :=
  Fstrings_Repeat_of (entered_of Try.func58 (by kernel_rfl) (by decide +kernel)) fun s c w h1 h2 => Try.strings_Repeat s c w h1 h2
theorem FBuilder_copyCheck_ok : FuncOk Try.prog 86 FBuilder_copyCheck :=
  FBuilder_copyCheck_of (ρ := Try.lays105_ren) { Try.lays105 with } Try.Builder_Extra_105.toX72 rfl (entered_of Try.func86 (by kernel_rfl) (by decide +kernel))
theorem FBuilder_String_ok : FuncOk Try.prog 69 FBuilder_String :=
  FBuilder_String_of (ρ := Try.lays105_ren) { Try.lays105 with } Try.Builder_Extra_105 rfl (entered_of Try.func69 (by kernel_rfl) (by decide +kernel))
theorem FBuilder_StringAgain_ok : FuncOk Try.prog 69 FBuilder_StringAgain :=
  FBuilder_StringAgain_of (ρ := Try.lays105_ren) { Try.lays105 with } Try.Builder_Extra_105 rfl (entered_of Try.func69 (by kernel_rfl) (by decide +kernel))
end Go.Proofs.R3
namespace Go.Proofs.R3
open Go Go.AE
--@ math_bits_Mul64
noncomputable def envmath_bits_Mul64 : Env := []
theorem envmath_bits_Mul64Ok : EnvOk Try.prog envmath_bits_Mul64 := EnvOk.nil
noncomputable def bmath_bits_Mul64 : Code := Try.f91.body.getD .skip
noncomputable def annmath_bits_Mul64 : Ann := .none
theorem annmath_bits_Mul64_ok : AnnOk Try.prog 51 bmath_bits_Mul64 annmath_bits_Mul64 := (annOk_none _ _ _)
abbrev Amath_bits_Mul64 := (Int) × (Int)
abbrev Ymath_bits_Mul64 := (Int) × (Int)
def fnmath_bits_Mul64 {β : Type} : Amath_bits_Mul64 → (Ymath_bits_Mul64 → Option β) → Option β := fun (a0, a1) exit => (exit (IntKind.wrap IntKind.u64 (IntKind.wrap IntKind.u64 (IntKind.wrap IntKind.u64 (Int.fdiv a0 (4294967296 : Int) * Int.fdiv a1 (4294967296 : Int)) + Int.fdiv (IntKind.wrap IntKind.u64 (IntKind.wrap IntKind.u64 (Int.fdiv a0 (4294967296 : Int) * IntKind.wrap IntKind.u64 (↑(Int.toNat (a1 % (18446744073709551616 : Int)) &&& (4294967295 : Nat)) : Int)) + Int.fdiv (IntKind.wrap IntKind.u64 (IntKind.wrap IntKind.u64 (↑(Int.toNat (a0 % (18446744073709551616 : Int)) &&& (4294967295 : Nat)) : Int) * IntKind.wrap IntKind.u64 (↑(Int.toNat (a1 % (18446744073709551616 : Int)) &&& (4294967295 : Nat)) : Int))) (4294967296 : Int))) (4294967296 : Int)) + Int.fdiv (IntKind.wrap IntKind.u64 (IntKind.wrap IntKind.u64 (↑(Int.toNat (IntKind.wrap IntKind.u64 (IntKind.wrap IntKind.u64 (Int.fdiv a0 (4294967296 : Int) * IntKind.wrap IntKind.u64 (↑(Int.toNat (a1 % (18446744073709551616 : Int)) &&& (4294967295 : Nat)) : Int)) + Int.fdiv (IntKind.wrap IntKind.u64 (IntKind.wrap IntKind.u64 (↑(Int.toNat (a0 % (18446744073709551616 : Int)) &&& (4294967295 : Nat)) : Int) * IntKind.wrap IntKind.u64 (↑(Int.toNat (a1 % (18446744073709551616 : Int)) &&& (4294967295 : Nat)) : Int))) (4294967296 : Int)) % (18446744073709551616 : Int)) &&& (4294967295 : Nat)) : Int) + IntKind.wrap IntKind.u64 (IntKind.wrap IntKind.u64 (↑(Int.toNat (a0 % (18446744073709551616 : Int)) &&& (4294967295 : Nat)) : Int) * Int.fdiv a1 (4294967296 : Int)))) (4294967296 : Int)), IntKind.wrap IntKind.u64 (a0 * a1)))
def fnDmath_bits_Mul64 (a : Amath_bits_Mul64) : Option Ymath_bits_Mul64 := fnmath_bits_Mul64 a some
theorem fnmath_bits_Mul64_nat (a : Amath_bits_Mul64) (k : Ymath_bits_Mul64 → Ans) : fnmath_bits_Mul64 a k = bindO (fnDmath_bits_Mul64 a) k := by
  obtain ⟨a0, a1⟩ := a
  simp only [fnDmath_bits_Mul64, fnmath_bits_Mul64, bindO_cond, bindO_assoc, bindO_none, bindO_pure, bindO_elim, bindO_unP]
def argsmath_bits_Mul64 : Amath_bits_Mul64 → List AV := fun (a0, a1) => [AV.int IntKind.u64 a0, AV.int IntKind.u64 a1]
def decAmath_bits_Mul64 (l : List AV) : Option Amath_bits_Mul64 := match l with
  | [AV.int IntKind.u64 a0, AV.int IntKind.u64 a1] => some (a0, a1)
  | _ => none
theorem decAmath_bits_Mul64_ok (l : List AV) (a : Amath_bits_Mul64) (h : decAmath_bits_Mul64 l = some a) : l = argsmath_bits_Mul64 a := by
  unfold decAmath_bits_Mul64 at h
  split at h
  · cases h; rfl
  · cases h
def rendmath_bits_Mul64 : Amath_bits_Mul64 → Ymath_bits_Mul64 → AV := fun (a0, a1) => unP fun r_0_y r_1_y => AV.tup [AV.int IntKind.u64 r_0_y, AV.int IntKind.u64 r_1_y]
theorem rendmath_bits_Mul64_ok : ∀ (a : Amath_bits_Mul64) (y : Ymath_bits_Mul64), (rendmath_bits_Mul64 a y).closed1 = true := by
  rintro ⟨a0, a1⟩ y <;> first | rfl | exact Empty.elim y
theorem fnmath_bits_Mul64_ok (a : Amath_bits_Mul64) : fnE Try.tab envmath_bits_Mul64 noHint 0 70 91 Try.f91.ntmps Try.f91.results.toList annmath_bits_Mul64 bmath_bits_Mul64 (argsmath_bits_Mul64 a) [] (fun v _ => some (v, [])) = fnmath_bits_Mul64 a (fun y => some (rendmath_bits_Mul64 a y, [])) := by kernel_rfl
def vFmath_bits_Mul64 (a : Amath_bits_Mul64) (K : AV → Ans) : Ans := bindO (fnDmath_bits_Mul64 a) fun y => K (rendmath_bits_Mul64 a y)
def Fmath_bits_Mul64 : List AV → (AV → Ans) → Ans := fun l K => bindO (decAmath_bits_Mul64 l) fun a => vFmath_bits_Mul64 a K
theorem Fmath_bits_Mul64_ok : PureOk Try.prog 91 Fmath_bits_Mul64 := pure_mkD (hint := noHint) (d := 0) (n := 70) mixed tabOk envmath_bits_Mul64Ok Try.func91 (bodySome (by kernel_rfl)) (by decide +kernel) annmath_bits_Mul64_ok decAmath_bits_Mul64_ok fnmath_bits_Mul64_ok fnmath_bits_Mul64_nat rendmath_bits_Mul64_ok
--@ math_bits_Mul
noncomputable def envmath_bits_Mul : Env := [(91, .pure Fmath_bits_Mul64)]
theorem envmath_bits_MulOk : EnvOk Try.prog envmath_bits_Mul := EnvOk.cons Fmath_bits_Mul64_ok (EnvOk.nil)
noncomputable def bmath_bits_Mul : Code := Try.f77.body.getD .skip
noncomputable def annmath_bits_Mul : Ann := .none
theorem annmath_bits_Mul_ok : AnnOk Try.prog 30 bmath_bits_Mul annmath_bits_Mul := (annOk_none _ _ _)
abbrev Amath_bits_Mul := (Int) × (Int)
abbrev Ymath_bits_Mul := (Int) × (Int)
def fnmath_bits_Mul {β : Type} : Amath_bits_Mul → (Ymath_bits_Mul → Option β) → Option β := fun (a0, a1) exit => (bindO (fnDmath_bits_Mul64 (a0, a1)) (unP fun r_0 r_1 => (exit (r_0, r_1))))
def fnDmath_bits_Mul (a : Amath_bits_Mul) : Option Ymath_bits_Mul := fnmath_bits_Mul a some
theorem fnmath_bits_Mul_nat (a : Amath_bits_Mul) (k : Ymath_bits_Mul → Ans) : fnmath_bits_Mul a k = bindO (fnDmath_bits_Mul a) k := by
  obtain ⟨a0, a1⟩ := a
  simp only [fnDmath_bits_Mul, fnmath_bits_Mul, bindO_cond, bindO_assoc, bindO_none, bindO_pure, bindO_elim, bindO_unP]
def argsmath_bits_Mul : Amath_bits_Mul → List AV := fun (a0, a1) => [AV.int IntKind.u64 a0, AV.int IntKind.u64 a1]
def decAmath_bits_Mul (l : List AV) : Option Amath_bits_Mul := match l with
  | [AV.int IntKind.u64 a0, AV.int IntKind.u64 a1] => some (a0, a1)
  | _ => none
theorem decAmath_bits_Mul_ok (l : List AV) (a : Amath_bits_Mul) (h : decAmath_bits_Mul l = some a) : l = argsmath_bits_Mul a := by
  unfold decAmath_bits_Mul at h
  split at h
  · cases h; rfl
  · cases h
def rendmath_bits_Mul : Amath_bits_Mul → Ymath_bits_Mul → AV := fun (a0, a1) => unP fun r_0_y r_1_y => AV.tup [AV.int IntKind.u64 r_0_y, AV.int IntKind.u64 r_1_y]
theorem rendmath_bits_Mul_ok : ∀ (a : Amath_bits_Mul) (y : Ymath_bits_Mul), (rendmath_bits_Mul a y).closed1 = true := by
  rintro ⟨a0, a1⟩ y <;> first | rfl | exact Empty.elim y
theorem fnmath_bits_Mul_ok (a : Amath_bits_Mul) : fnE Try.tab envmath_bits_Mul noHint 0 70 77 Try.f77.ntmps Try.f77.results.toList annmath_bits_Mul bmath_bits_Mul (argsmath_bits_Mul a) [] (fun v _ => some (v, [])) = fnmath_bits_Mul a (fun y => some (rendmath_bits_Mul a y, [])) := by kernel_rfl
def vFmath_bits_Mul (a : Amath_bits_Mul) (K : AV → Ans) : Ans := bindO (fnDmath_bits_Mul a) fun y => K (rendmath_bits_Mul a y)
def Fmath_bits_Mul : List AV → (AV → Ans) → Ans := fun l K => bindO (decAmath_bits_Mul l) fun a => vFmath_bits_Mul a K
theorem Fmath_bits_Mul_ok : PureOk Try.prog 77 Fmath_bits_Mul := pure_mkD (hint := noHint) (d := 0) (n := 70) mixed tabOk envmath_bits_MulOk Try.func77 (bodySome (by kernel_rfl)) (by decide +kernel) annmath_bits_Mul_ok decAmath_bits_Mul_ok fnmath_bits_Mul_ok fnmath_bits_Mul_nat rendmath_bits_Mul_ok
--@ slices_Repeat_string_string
noncomputable def envslices_Repeat_string_string : Env := [(77, .pure Fmath_bits_Mul)]
theorem envslices_Repeat_string_stringOk : EnvOk Try.prog envslices_Repeat_string_string := EnvOk.cons Fmath_bits_Mul_ok (EnvOk.nil)
noncomputable def bslices_Repeat_string_string : Code := Try.f57.body.getD .skip
noncomputable def Lslices_Repeat_string_string_n3 : Code := codeAt [1, 1, 1, 1, 1, 1, 0, 0, 0] bslices_Repeat_string_string
noncomputable def annLslices_Repeat_string_string_n3 : Ann := .at 0 [7, 8] (.loop .none)
theorem annLslices_Repeat_string_string_n3_ok : AnnOk Try.prog 48 (.loop Lslices_Repeat_string_string_n3) annLslices_Repeat_string_string_n3 := annOk_at (annOk_none _ _ _)
abbrev Islices_Repeat_string_string_n3 := Unit
abbrev Yslices_Repeat_string_string_n3 := (List (List UInt8))
abbrev Vslices_Repeat_string_string_n3 := (Int) × (List (List UInt8))
def Sslices_Repeat_string_string_n3 : Islices_Repeat_string_string_n3 → Vslices_Repeat_string_string_n3 → St := fun _ (t8, o0) => { env := [(7, AV.own 0), (8, AV.int IntKind.i64 t8)], stk := [[]], H := [Obj.arr Ty.str o0], blk := 233472 }
def decslices_Repeat_string_string_n3 (s : St) : Option (Islices_Repeat_string_string_n3 × Vslices_Repeat_string_string_n3) := match s with
  | { env := [(7, AV.own 0), (8, AV.int IntKind.i64 t8)], stk := [[]], H := [Obj.arr Ty.str o0], blk := 233472 } => some ((), (t8, o0))
  | _ => none
theorem decslices_Repeat_string_string_n3_ok (s : St) (x : Islices_Repeat_string_string_n3 × Vslices_Repeat_string_string_n3) (h : decslices_Repeat_string_string_n3 s = some x) : s = Sslices_Repeat_string_string_n3 x.1 x.2 := by
  unfold decslices_Repeat_string_string_n3 at h
  split at h
  · cases h; rfl
  · cases h
def outslices_Repeat_string_string_n3 : Islices_Repeat_string_string_n3 → (Ex → St → Ans) → Yslices_Repeat_string_string_n3 → Ans := fun _ K => fun o0_y => K (Ex.exit 0) { env := [(7, AV.own 0)], stk := [[]], H := [Obj.arr Ty.str o0_y], blk := 233472 }
def stepslices_Repeat_string_string_n3 {β : Type} : Islices_Repeat_string_string_n3 → Vslices_Repeat_string_string_n3 → (Vslices_Repeat_string_string_n3 → Option β) → (Yslices_Repeat_string_string_n3 → Option β) → Option β := fun _ (t8, o0) next exit => (bif decide (t8 < (↑(List.length o0) : Int)) then (bif inR t8 (List.length o0 + (1 : Nat)) then (bif inR t8 (List.length o0 + (1 : Nat)) then (bif Nat.ble ((0 : Nat) + (Int.toNat t8 - (0 : Nat))) (List.length o0) then (bif Nat.ble (Int.toNat t8 + (List.length o0 - Int.toNat t8)) (List.length o0) then (next (IntKind.wrap IntKind.i64 (t8 + (↑(Nat.min (List.length (List.take (Int.toNat t8 - (0 : Nat)) (List.drop (0 : Nat) o0))) (List.length o0 - Int.toNat t8)) : Int)), List.take (Int.toNat t8) o0 ++ (List.take (List.length o0 - Int.toNat t8) (List.take (Int.toNat t8 - (0 : Nat)) (List.drop (0 : Nat) o0)) ++ List.drop (Int.toNat t8 + Nat.min (List.length (List.take (Int.toNat t8 - (0 : Nat)) (List.drop (0 : Nat) o0))) (List.length o0 - Int.toNat t8)) o0))) else none) else none) else none) else none) else (exit (o0)))
def stepDslices_Repeat_string_string_n3 (i : Islices_Repeat_string_string_n3) (v : Vslices_Repeat_string_string_n3) : Option (Vslices_Repeat_string_string_n3 ⊕ Yslices_Repeat_string_string_n3) := stepslices_Repeat_string_string_n3 i v (fun v => some (.inl v)) (fun y => some (.inr y))
theorem stepslices_Repeat_string_string_n3_nat (i : Islices_Repeat_string_string_n3) (v : Vslices_Repeat_string_string_n3) (next : Vslices_Repeat_string_string_n3 → Ans) (exit : Yslices_Repeat_string_string_n3 → Ans) : stepslices_Repeat_string_string_n3 i v next exit = bindO (stepDslices_Repeat_string_string_n3 i v) (Sum.elim next exit) := by
  obtain z := i
  obtain ⟨t8, o0⟩ := v
  simp only [stepDslices_Repeat_string_string_n3, stepslices_Repeat_string_string_n3, bindO_cond, bindO_assoc, bindO_none, bindO_pure, bindO_elim, bindO_unP, Sum.elim_inl, Sum.elim_inr]
theorem stepslices_Repeat_string_string_n3_ok (n : Nat) (i : Islices_Repeat_string_string_n3) (v : Vslices_Repeat_string_string_n3) (K : Ex → St → Ans) : codeI Try.tab envslices_Repeat_string_string noHint (codeD Try.tab envslices_Repeat_string_string noHint 0 64) (n+1) 48 annLslices_Repeat_string_string_n3 (.loop Lslices_Repeat_string_string_n3) (weakP 0 (exk [7] [4] [(0, [7])]) K) (Sslices_Repeat_string_string_n3 i v) = stepslices_Repeat_string_string_n3 i v (fun v' => codeI Try.tab envslices_Repeat_string_string noHint (codeD Try.tab envslices_Repeat_string_string noHint 0 64) n 48 annLslices_Repeat_string_string_n3 (.loop Lslices_Repeat_string_string_n3) (weakP 0 (exk [7] [4] [(0, [7])]) K) (Sslices_Repeat_string_string_n3 i v')) (fun y => outslices_Repeat_string_string_n3 i K y) := by kernel_rfl
theorem GNslices_Repeat_string_string_n3_ok : CSum Try.prog 48 (.loop Lslices_Repeat_string_string_n3) (sumL decslices_Repeat_string_string_n3 stepDslices_Repeat_string_string_n3 outslices_Repeat_string_string_n3) := csum_loop mixed tabOk envslices_Repeat_string_stringOk 0 (exk [7] [4] [(0, [7])]) annLslices_Repeat_string_string_n3_ok decslices_Repeat_string_string_n3_ok stepslices_Repeat_string_string_n3_ok stepslices_Repeat_string_string_n3_nat
noncomputable def Gslices_Repeat_string_string_n3 : (Ex → St → Ans) → St → Ans := (sumL decslices_Repeat_string_string_n3 stepDslices_Repeat_string_string_n3 outslices_Repeat_string_string_n3)
theorem Gslices_Repeat_string_string_n3_ok : CSum Try.prog 48 (.loop Lslices_Repeat_string_string_n3) Gslices_Repeat_string_string_n3 := GNslices_Repeat_string_string_n3_ok
noncomputable def Lslices_Repeat_string_string_n2 : Code := codeAt [1, 1, 1, 0, 1] bslices_Repeat_string_string
noncomputable def annLslices_Repeat_string_string_n2 : Ann := .none
theorem annLslices_Repeat_string_string_n2_ok : AnnOk Try.prog 48 Lslices_Repeat_string_string_n2 annLslices_Repeat_string_string_n2 := (annOk_none _ _ _)
abbrev Islices_Repeat_string_string_n2 := (List (List UInt8)) × (Int) × (Bool)
abbrev Yslices_Repeat_string_string_n2 := Unit
def Sslices_Repeat_string_string_n2 : Islices_Repeat_string_string_n2 → St := fun (t0, t6, t26) => { env := [(0, AV.ro Ty.str t0), (6, AV.int IntKind.u64 t6), (26, AV.bool t26)], stk := [[]], H := [], blk := 233472 }
def decslices_Repeat_string_string_n2 (s : St) : Option Islices_Repeat_string_string_n2 := match s with
  | { env := [(0, AV.ro Ty.str t0), (6, AV.int IntKind.u64 t6), (26, AV.bool t26)], stk := [[]], H := [], blk := 233472 } => some (t0, t6, t26)
  | _ => none
theorem decslices_Repeat_string_string_n2_ok (s : St) (x : Islices_Repeat_string_string_n2) (h : decslices_Repeat_string_string_n2 s = some x) : s = Sslices_Repeat_string_string_n2 x := by
  unfold decslices_Repeat_string_string_n2 at h
  split at h
  · cases h; rfl
  · cases h
def outslices_Repeat_string_string_n2 : Islices_Repeat_string_string_n2 → (Ex → St → Ans) → Yslices_Repeat_string_string_n2 → Ans := fun (t0, t6, t26) K => fun _ => K (Ex.norm) { env := [(0, AV.ro Ty.str t0), (6, AV.int IntKind.u64 t6)], stk := [[]], H := [], blk := 233472 }
def nodeslices_Repeat_string_string_n2 {β : Type} : Islices_Repeat_string_string_n2 → (Yslices_Repeat_string_string_n2 → Option β) → Option β := fun (t0, t6, t26) exit => (bif t26 then none else (exit ()))
def nodeDslices_Repeat_string_string_n2 (i : Islices_Repeat_string_string_n2) : Option Yslices_Repeat_string_string_n2 := nodeslices_Repeat_string_string_n2 i some
theorem nodeslices_Repeat_string_string_n2_nat (i : Islices_Repeat_string_string_n2) (k : Yslices_Repeat_string_string_n2 → Ans) : nodeslices_Repeat_string_string_n2 i k = bindO (nodeDslices_Repeat_string_string_n2 i) k := by
  obtain ⟨t0, t6, t26⟩ := i
  simp only [nodeDslices_Repeat_string_string_n2, nodeslices_Repeat_string_string_n2, bindO_cond, bindO_assoc, bindO_none, bindO_pure, bindO_elim, bindO_unP]
theorem nodeslices_Repeat_string_string_n2_ok (i : Islices_Repeat_string_string_n2) (K : Ex → St → Ans) : codeI Try.tab envslices_Repeat_string_string noHint (codeD Try.tab envslices_Repeat_string_string noHint 0 64) 70 48 annLslices_Repeat_string_string_n2 Lslices_Repeat_string_string_n2 (weakP 0 (exk [0, 6] [4] []) K) (Sslices_Repeat_string_string_n2 i) = nodeslices_Repeat_string_string_n2 i (outslices_Repeat_string_string_n2 i K) := by kernel_rfl
theorem GNslices_Repeat_string_string_n2_ok : CSum Try.prog 48 Lslices_Repeat_string_string_n2 (sumN decslices_Repeat_string_string_n2 nodeDslices_Repeat_string_string_n2 outslices_Repeat_string_string_n2) := csum_node mixed tabOk envslices_Repeat_string_stringOk 0 (exk [0, 6] [4] []) annLslices_Repeat_string_string_n2_ok decslices_Repeat_string_string_n2_ok nodeslices_Repeat_string_string_n2_ok nodeslices_Repeat_string_string_n2_nat
noncomputable def Gslices_Repeat_string_string_n2 : (Ex → St → Ans) → St → Ans := (sumN decslices_Repeat_string_string_n2 nodeDslices_Repeat_string_string_n2 outslices_Repeat_string_string_n2)
theorem Gslices_Repeat_string_string_n2_ok : CSum Try.prog 48 Lslices_Repeat_string_string_n2 Gslices_Repeat_string_string_n2 := GNslices_Repeat_string_string_n2_ok
noncomputable def Lslices_Repeat_string_string_n1 : Code := codeAt [1, 1, 1, 0, 0] bslices_Repeat_string_string
noncomputable def annLslices_Repeat_string_string_n1 : Ann := .none
theorem annLslices_Repeat_string_string_n1_ok : AnnOk Try.prog 48 Lslices_Repeat_string_string_n1 annLslices_Repeat_string_string_n1 := (annOk_none _ _ _)
abbrev Islices_Repeat_string_string_n1 := (List (List UInt8)) × (Int) × (Int)
abbrev Yslices_Repeat_string_string_n1 := (Bool)
def Sslices_Repeat_string_string_n1 : Islices_Repeat_string_string_n1 → St := fun (t0, t5, t6) => { env := [(0, AV.ro Ty.str t0), (5, AV.int IntKind.u64 t5), (6, AV.int IntKind.u64 t6)], stk := [[]], H := [], blk := 233472 }
def decslices_Repeat_string_string_n1 (s : St) : Option Islices_Repeat_string_string_n1 := match s with
  | { env := [(0, AV.ro Ty.str t0), (5, AV.int IntKind.u64 t5), (6, AV.int IntKind.u64 t6)], stk := [[]], H := [], blk := 233472 } => some (t0, t5, t6)
  | _ => none
theorem decslices_Repeat_string_string_n1_ok (s : St) (x : Islices_Repeat_string_string_n1) (h : decslices_Repeat_string_string_n1 s = some x) : s = Sslices_Repeat_string_string_n1 x := by
  unfold decslices_Repeat_string_string_n1 at h
  split at h
  · cases h; rfl
  · cases h
def outslices_Repeat_string_string_n1 : Islices_Repeat_string_string_n1 → (Ex → St → Ans) → Yslices_Repeat_string_string_n1 → Ans := fun (t0, t5, t6) K => fun t26_y => K (Ex.norm) { env := [(0, AV.ro Ty.str t0), (6, AV.int IntKind.u64 t6), (26, AV.bool t26_y)], stk := [[]], H := [], blk := 233472 }
def nodeslices_Repeat_string_string_n1 {β : Type} : Islices_Repeat_string_string_n1 → (Yslices_Repeat_string_string_n1 → Option β) → Option β := fun (t0, t5, t6) exit => (bif decide (t5 > (0 : Int)) then (exit (true)) else (exit (decide (t6 > (9223372036854775807 : Int)))))
def nodeDslices_Repeat_string_string_n1 (i : Islices_Repeat_string_string_n1) : Option Yslices_Repeat_string_string_n1 := nodeslices_Repeat_string_string_n1 i some
theorem nodeslices_Repeat_string_string_n1_nat (i : Islices_Repeat_string_string_n1) (k : Yslices_Repeat_string_string_n1 → Ans) : nodeslices_Repeat_string_string_n1 i k = bindO (nodeDslices_Repeat_string_string_n1 i) k := by
  obtain ⟨t0, t5, t6⟩ := i
  simp only [nodeDslices_Repeat_string_string_n1, nodeslices_Repeat_string_string_n1, bindO_cond, bindO_assoc, bindO_none, bindO_pure, bindO_elim, bindO_unP]
theorem nodeslices_Repeat_string_string_n1_ok (i : Islices_Repeat_string_string_n1) (K : Ex → St → Ans) : codeI Try.tab envslices_Repeat_string_string noHint (codeD Try.tab envslices_Repeat_string_string noHint 0 64) 70 48 annLslices_Repeat_string_string_n1 Lslices_Repeat_string_string_n1 (weakP 0 (exk [0, 6, 26] [4] []) K) (Sslices_Repeat_string_string_n1 i) = nodeslices_Repeat_string_string_n1 i (outslices_Repeat_string_string_n1 i K) := by kernel_rfl
theorem GNslices_Repeat_string_string_n1_ok : CSum Try.prog 48 Lslices_Repeat_string_string_n1 (sumN decslices_Repeat_string_string_n1 nodeDslices_Repeat_string_string_n1 outslices_Repeat_string_string_n1) := csum_node mixed tabOk envslices_Repeat_string_stringOk 0 (exk [0, 6, 26] [4] []) annLslices_Repeat_string_string_n1_ok decslices_Repeat_string_string_n1_ok nodeslices_Repeat_string_string_n1_ok nodeslices_Repeat_string_string_n1_nat
noncomputable def Gslices_Repeat_string_string_n1 : (Ex → St → Ans) → St → Ans := (sumN decslices_Repeat_string_string_n1 nodeDslices_Repeat_string_string_n1 outslices_Repeat_string_string_n1)
theorem Gslices_Repeat_string_string_n1_ok : CSum Try.prog 48 Lslices_Repeat_string_string_n1 Gslices_Repeat_string_string_n1 := GNslices_Repeat_string_string_n1_ok
noncomputable def Lslices_Repeat_string_string_n0 : Code := codeAt [1, 0, 1] bslices_Repeat_string_string
noncomputable def annLslices_Repeat_string_string_n0 : Ann := .none
theorem annLslices_Repeat_string_string_n0_ok : AnnOk Try.prog 48 Lslices_Repeat_string_string_n0 annLslices_Repeat_string_string_n0 := (annOk_none _ _ _)
abbrev Islices_Repeat_string_string_n0 := (List (List UInt8)) × (Int) × (Bool)
abbrev Yslices_Repeat_string_string_n0 := Unit
def Sslices_Repeat_string_string_n0 : Islices_Repeat_string_string_n0 → St := fun (t0, t1, t10) => { env := [(0, AV.ro Ty.str t0), (1, AV.int IntKind.i64 t1), (10, AV.bool t10)], stk := [[]], H := [], blk := 233472 }
def decslices_Repeat_string_string_n0 (s : St) : Option Islices_Repeat_string_string_n0 := match s with
  | { env := [(0, AV.ro Ty.str t0), (1, AV.int IntKind.i64 t1), (10, AV.bool t10)], stk := [[]], H := [], blk := 233472 } => some (t0, t1, t10)
  | _ => none
theorem decslices_Repeat_string_string_n0_ok (s : St) (x : Islices_Repeat_string_string_n0) (h : decslices_Repeat_string_string_n0 s = some x) : s = Sslices_Repeat_string_string_n0 x := by
  unfold decslices_Repeat_string_string_n0 at h
  split at h
  · cases h; rfl
  · cases h
def outslices_Repeat_string_string_n0 : Islices_Repeat_string_string_n0 → (Ex → St → Ans) → Yslices_Repeat_string_string_n0 → Ans := fun (t0, t1, t10) K => fun _ => K (Ex.norm) { env := [(0, AV.ro Ty.str t0), (1, AV.int IntKind.i64 t1)], stk := [[]], H := [], blk := 233472 }
def nodeslices_Repeat_string_string_n0 {β : Type} : Islices_Repeat_string_string_n0 → (Yslices_Repeat_string_string_n0 → Option β) → Option β := fun (t0, t1, t10) exit => (bif t10 then none else (exit ()))
def nodeDslices_Repeat_string_string_n0 (i : Islices_Repeat_string_string_n0) : Option Yslices_Repeat_string_string_n0 := nodeslices_Repeat_string_string_n0 i some
theorem nodeslices_Repeat_string_string_n0_nat (i : Islices_Repeat_string_string_n0) (k : Yslices_Repeat_string_string_n0 → Ans) : nodeslices_Repeat_string_string_n0 i k = bindO (nodeDslices_Repeat_string_string_n0 i) k := by
  obtain ⟨t0, t1, t10⟩ := i
  simp only [nodeDslices_Repeat_string_string_n0, nodeslices_Repeat_string_string_n0, bindO_cond, bindO_assoc, bindO_none, bindO_pure, bindO_elim, bindO_unP]
theorem nodeslices_Repeat_string_string_n0_ok (i : Islices_Repeat_string_string_n0) (K : Ex → St → Ans) : codeI Try.tab envslices_Repeat_string_string noHint (codeD Try.tab envslices_Repeat_string_string noHint 0 64) 70 48 annLslices_Repeat_string_string_n0 Lslices_Repeat_string_string_n0 (weakP 0 (exk [0, 1] [4] []) K) (Sslices_Repeat_string_string_n0 i) = nodeslices_Repeat_string_string_n0 i (outslices_Repeat_string_string_n0 i K) := by kernel_rfl
theorem GNslices_Repeat_string_string_n0_ok : CSum Try.prog 48 Lslices_Repeat_string_string_n0 (sumN decslices_Repeat_string_string_n0 nodeDslices_Repeat_string_string_n0 outslices_Repeat_string_string_n0) := csum_node mixed tabOk envslices_Repeat_string_stringOk 0 (exk [0, 1] [4] []) annLslices_Repeat_string_string_n0_ok decslices_Repeat_string_string_n0_ok nodeslices_Repeat_string_string_n0_ok nodeslices_Repeat_string_string_n0_nat
noncomputable def Gslices_Repeat_string_string_n0 : (Ex → St → Ans) → St → Ans := (sumN decslices_Repeat_string_string_n0 nodeDslices_Repeat_string_string_n0 outslices_Repeat_string_string_n0)
theorem Gslices_Repeat_string_string_n0_ok : CSum Try.prog 48 Lslices_Repeat_string_string_n0 Gslices_Repeat_string_string_n0 := GNslices_Repeat_string_string_n0_ok
noncomputable def annslices_Repeat_string_string : Ann := (.seq .none (.seq (.seq .none (.cut 0 [0, 1, 10] Gslices_Repeat_string_string_n0)) (.seq .none (.seq (.seq (.cut 0 [0, 5, 6] Gslices_Repeat_string_string_n1) (.cut 0 [0, 6, 26] Gslices_Repeat_string_string_n2)) (.seq .none (.seq .none (.seq (.block (.cut 0 [7, 8] Gslices_Repeat_string_string_n3)) .none)))))))
theorem annslices_Repeat_string_string_ok : AnnOk Try.prog 48 bslices_Repeat_string_string annslices_Repeat_string_string := ⟨(annOk_none _ _ _), ⟨⟨(annOk_none _ _ _), Gslices_Repeat_string_string_n0_ok⟩, ⟨(annOk_none _ _ _), ⟨⟨Gslices_Repeat_string_string_n1_ok, Gslices_Repeat_string_string_n2_ok⟩, ⟨(annOk_none _ _ _), ⟨(annOk_none _ _ _), ⟨Gslices_Repeat_string_string_n3_ok, (annOk_none _ _ _)⟩⟩⟩⟩⟩⟩⟩
abbrev Aslices_Repeat_string_string := (List (List UInt8)) × (Int)
abbrev Yslices_Repeat_string_string := (List (List UInt8))
def fnslices_Repeat_string_string {β : Type} : Aslices_Repeat_string_string → (Yslices_Repeat_string_string → Option β) → Option β := fun (a0, a1) exit => (bindO (nodeDslices_Repeat_string_string_n0 (a0, a1, decide (a1 < (0 : Int)))) fun _ => (bindO (fnDmath_bits_Mul (IntKind.wrap IntKind.u64 (↑(List.length a0) : Int), IntKind.wrap IntKind.u64 a1)) (unP fun r_0 r_1 => (bindO (nodeDslices_Repeat_string_string_n1 (a0, r_0, r_1)) fun t26 => (bindO (nodeDslices_Repeat_string_string_n2 (a0, r_1, t26)) fun _ => (bif decide ((0 : Int) ≤ IntKind.wrap IntKind.i64 r_1) && decide (IntKind.wrap IntKind.i64 r_1 ≤ IntKind.wrap IntKind.i64 r_1) && decide ((16 : Int) * IntKind.wrap IntKind.i64 r_1 ≤ (281474976710656 : Int)) && decide (IntKind.wrap IntKind.i64 r_1 ≤ (9223372036854775807 : Int)) then (bindO (loopD (stepDslices_Repeat_string_string_n3 ()) FUEL ((↑(Nat.min (List.length a0) (List.length (List.replicate (Int.toNat (IntKind.wrap IntKind.i64 r_1)) (nilL UInt8)))) : Int), List.take (List.length (List.replicate (Int.toNat (IntKind.wrap IntKind.i64 r_1)) (nilL UInt8))) a0 ++ List.drop (List.length a0) (List.replicate (Int.toNat (IntKind.wrap IntKind.i64 r_1)) (nilL UInt8)))) fun o0 => (exit (o0))) else none))))))
def fnDslices_Repeat_string_string (a : Aslices_Repeat_string_string) : Option Yslices_Repeat_string_string := fnslices_Repeat_string_string a some
theorem fnslices_Repeat_string_string_nat (a : Aslices_Repeat_string_string) (k : Yslices_Repeat_string_string → Ans) : fnslices_Repeat_string_string a k = bindO (fnDslices_Repeat_string_string a) k := by
  obtain ⟨a0, a1⟩ := a
  simp only [fnDslices_Repeat_string_string, fnslices_Repeat_string_string, bindO_cond, bindO_assoc, bindO_none, bindO_pure, bindO_elim, bindO_unP]
def argsslices_Repeat_string_string : Aslices_Repeat_string_string → List AV × List AE.Obj := fun (a0, a1) => ([AV.ro Ty.str a0, AV.int IntKind.i64 a1], [])
def decAslices_Repeat_string_string (l : List AV) (H : List AE.Obj) : Option Aslices_Repeat_string_string := match l, H with
  | [AV.ro Ty.str a0, AV.int IntKind.i64 a1], [] => some (a0, a1)
  | _, _ => none
theorem decAslices_Repeat_string_string_ok (l : List AV) (H : List AE.Obj) (a : Aslices_Repeat_string_string) (h : decAslices_Repeat_string_string l H = some a) : (l, H) = argsslices_Repeat_string_string a := by
  unfold decAslices_Repeat_string_string at h
  split at h
  · cases h; rfl
  · cases h
def outslices_Repeat_string_string : Aslices_Repeat_string_string → (AV → List AE.Obj → Ans) → Yslices_Repeat_string_string → Ans := fun (a0, a1) K => fun o0_y => K (AV.own 0) [Obj.arr Ty.str o0_y]
theorem fnslices_Repeat_string_string_ok (a : Aslices_Repeat_string_string) (K : AV → List AE.Obj → Ans) : fnE Try.tab envslices_Repeat_string_string noHint 0 70 57 Try.f57.ntmps Try.f57.results.toList annslices_Repeat_string_string bslices_Repeat_string_string (argsslices_Repeat_string_string a).1 (argsslices_Repeat_string_string a).2 K = fnslices_Repeat_string_string a (outslices_Repeat_string_string a K) := by kernel_rfl
def vFslices_Repeat_string_string (a : Aslices_Repeat_string_string) (K : AV → List AE.Obj → Ans) : Ans := bindO (fnDslices_Repeat_string_string a) fun y => outslices_Repeat_string_string a K y
def Fslices_Repeat_string_string : List AV → List AE.Obj → (AV → List AE.Obj → Ans) → Ans := fun l H K => bindO (decAslices_Repeat_string_string l H) fun a => vFslices_Repeat_string_string a K
theorem Fslices_Repeat_string_string_ok : FuncOk Try.prog 57 Fslices_Repeat_string_string := func_mkD (hint := noHint) (d := 0) (n := 70) mixed tabOk envslices_Repeat_string_stringOk Try.func57 (bodySome (by kernel_rfl)) (by decide +kernel) annslices_Repeat_string_string_ok decAslices_Repeat_string_string_ok fnslices_Repeat_string_string_ok fnslices_Repeat_string_string_nat
--@ disk_New
noncomputable def envdisk_New : Env := [(58, .pure Fstrings_Repeat), (57, .func Fslices_Repeat_string_string)]
theorem envdisk_NewOk : EnvOk Try.prog envdisk_New := EnvOk.cons Fstrings_Repeat_ok (EnvOk.cons Fslices_Repeat_string_string_ok (EnvOk.nil))
noncomputable def bdisk_New : Code := Try.f12.body.getD .skip
noncomputable def anndisk_New : Ann := .none
theorem anndisk_New_ok : AnnOk Try.prog 14 bdisk_New anndisk_New := (annOk_none _ _ _)
abbrev Adisk_New := (Int)
abbrev Ydisk_New := (List (List UInt8))
def fndisk_New {β : Type} : Adisk_New → (Ydisk_New → Option β) → Option β := fun a0 exit => (bindO (fnDstrings_Repeat ([(0 : UInt8)], (64 : Int))) fun r => (bindO (fnDslices_Repeat_string_string ([r], if (1000 : Int) < if (0 : Int) > a0 then (0 : Int) else a0 then (1000 : Int) else if (0 : Int) > a0 then (0 : Int) else a0)) fun o0 => (exit (o0))))
def fnDdisk_New (a : Adisk_New) : Option Ydisk_New := fndisk_New a some
theorem fndisk_New_nat (a : Adisk_New) (k : Ydisk_New → Ans) : fndisk_New a k = bindO (fnDdisk_New a) k := by
  obtain z := a
  simp only [fnDdisk_New, fndisk_New, bindO_cond, bindO_assoc, bindO_none, bindO_pure, bindO_elim, bindO_unP]
def argsdisk_New : Adisk_New → List AV × List AE.Obj := fun a0 => ([AV.int IntKind.i64 a0], [])
def decAdisk_New (l : List AV) (H : List AE.Obj) : Option Adisk_New := match l, H with
  | [AV.int IntKind.i64 a0], [] => some (a0)
  | _, _ => none
theorem decAdisk_New_ok (l : List AV) (H : List AE.Obj) (a : Adisk_New) (h : decAdisk_New l H = some a) : (l, H) = argsdisk_New a := by
  unfold decAdisk_New at h
  split at h
  · cases h; rfl
  · cases h
def outdisk_New : Adisk_New → (AV → List AE.Obj → Ans) → Ydisk_New → Ans := fun a0 K => fun o1_y => K (AV.ptr 0 0) [AE.Obj.cells [AV.own 1, AV.map 2, AV.own 3, AV.int IntKind.i64 (0), AV.own 4, AV.int IntKind.i64 (0), AV.bool (false)], Obj.arr Ty.str o1_y, Obj.mp IntKind.i64 Ty.str ([]), Obj.arr (Ty.st (Ty.pair (Ty.int IntKind.i64) Ty.str)) ([]), Obj.arr (Ty.int IntKind.i64) ([])]
theorem fndisk_New_ok (a : Adisk_New) (K : AV → List AE.Obj → Ans) : fnE Try.tab envdisk_New noHint 0 70 12 Try.f12.ntmps Try.f12.results.toList anndisk_New bdisk_New (argsdisk_New a).1 (argsdisk_New a).2 K = fndisk_New a (outdisk_New a K) := by kernel_rfl
def vFdisk_New (a : Adisk_New) (K : AV → List AE.Obj → Ans) : Ans := bindO (fnDdisk_New a) fun y => outdisk_New a K y
def Fdisk_New : List AV → List AE.Obj → (AV → List AE.Obj → Ans) → Ans := fun l H K => bindO (decAdisk_New l H) fun a => vFdisk_New a K
theorem Fdisk_New_ok : FuncOk Try.prog 12 Fdisk_New := func_mkD (hint := noHint) (d := 0) (n := 70) mixed tabOk envdisk_NewOk Try.func12 (bodySome (by kernel_rfl)) (by decide +kernel) anndisk_New_ok decAdisk_New_ok fndisk_New_ok fndisk_New_nat
--@ disk_Disk_Sectors
noncomputable def envdisk_Disk_Sectors : Env := []
theorem envdisk_Disk_SectorsOk : EnvOk Try.prog envdisk_Disk_Sectors := EnvOk.nil
noncomputable def bdisk_Disk_Sectors : Code := Try.f23.body.getD .skip
noncomputable def anndisk_Disk_Sectors : Ann := .none
theorem anndisk_Disk_Sectors_ok : AnnOk Try.prog 10 bdisk_Disk_Sectors anndisk_Disk_Sectors := (annOk_none _ _ _)
abbrev Adisk_Disk_Sectors := (Int) × (Int) × (Bool) × (List (List UInt8)) × (List (Int × List UInt8)) × (List (Int × List UInt8)) × (List Int)
abbrev Ydisk_Disk_Sectors := (Int)
def fndisk_Disk_Sectors {β : Type} : Adisk_Disk_Sectors → (Ydisk_Disk_Sectors → Option β) → Option β := fun (o0_3, o0_5, o0_6, o1, o2, o3, o4) exit => (exit ((↑(List.length o1) : Int)))
def fnDdisk_Disk_Sectors (a : Adisk_Disk_Sectors) : Option Ydisk_Disk_Sectors := fndisk_Disk_Sectors a some
theorem fndisk_Disk_Sectors_nat (a : Adisk_Disk_Sectors) (k : Ydisk_Disk_Sectors → Ans) : fndisk_Disk_Sectors a k = bindO (fnDdisk_Disk_Sectors a) k := by
  obtain ⟨o0_3, o0_5, o0_6, o1, o2, o3, o4⟩ := a
  simp only [fnDdisk_Disk_Sectors, fndisk_Disk_Sectors, bindO_cond, bindO_assoc, bindO_none, bindO_pure, bindO_elim, bindO_unP]
def argsdisk_Disk_Sectors : Adisk_Disk_Sectors → List AV × List AE.Obj := fun (o0_3, o0_5, o0_6, o1, o2, o3, o4) => ([AV.ptr 0 0], [AE.Obj.cells [AV.own 1, AV.map 2, AV.own 3, AV.int IntKind.i64 o0_3, AV.own 4, AV.int IntKind.i64 o0_5, AV.bool o0_6], Obj.arr Ty.str o1, Obj.mp IntKind.i64 Ty.str o2, Obj.arr (Ty.st (Ty.pair (Ty.int IntKind.i64) Ty.str)) o3, Obj.arr (Ty.int IntKind.i64) o4])
def decAdisk_Disk_Sectors (l : List AV) (H : List AE.Obj) : Option Adisk_Disk_Sectors := match l, H with
  | [AV.ptr 0 0], [AE.Obj.cells [AV.own 1, AV.map 2, AV.own 3, AV.int IntKind.i64 o0_3, AV.own 4, AV.int IntKind.i64 o0_5, AV.bool o0_6], Obj.arr Ty.str o1, Obj.mp IntKind.i64 Ty.str o2, Obj.arr (Ty.st (Ty.pair (Ty.int IntKind.i64) Ty.str)) o3, Obj.arr (Ty.int IntKind.i64) o4] => some (o0_3, o0_5, o0_6, o1, o2, o3, o4)
  | _, _ => none
theorem decAdisk_Disk_Sectors_ok (l : List AV) (H : List AE.Obj) (a : Adisk_Disk_Sectors) (h : decAdisk_Disk_Sectors l H = some a) : (l, H) = argsdisk_Disk_Sectors a := by
  unfold decAdisk_Disk_Sectors at h
  split at h
  · cases h; rfl
  · cases h
def outdisk_Disk_Sectors : Adisk_Disk_Sectors → (AV → List AE.Obj → Ans) → Ydisk_Disk_Sectors → Ans := fun (o0_3, o0_5, o0_6, o1, o2, o3, o4) K => fun r_y => K (AV.int IntKind.i64 r_y) [AE.Obj.cells [AV.own 1, AV.map 2, AV.own 3, AV.int IntKind.i64 o0_3, AV.own 4, AV.int IntKind.i64 o0_5, AV.bool o0_6], Obj.arr Ty.str o1, Obj.mp IntKind.i64 Ty.str o2, Obj.arr (Ty.st (Ty.pair (Ty.int IntKind.i64) Ty.str)) o3, Obj.arr (Ty.int IntKind.i64) o4]
theorem fndisk_Disk_Sectors_ok (a : Adisk_Disk_Sectors) (K : AV → List AE.Obj → Ans) : fnE Try.tab envdisk_Disk_Sectors noHint 0 70 23 Try.f23.ntmps Try.f23.results.toList anndisk_Disk_Sectors bdisk_Disk_Sectors (argsdisk_Disk_Sectors a).1 (argsdisk_Disk_Sectors a).2 K = fndisk_Disk_Sectors a (outdisk_Disk_Sectors a K) := by kernel_rfl
def vFdisk_Disk_Sectors (a : Adisk_Disk_Sectors) (K : AV → List AE.Obj → Ans) : Ans := bindO (fnDdisk_Disk_Sectors a) fun y => outdisk_Disk_Sectors a K y
def Fdisk_Disk_Sectors : List AV → List AE.Obj → (AV → List AE.Obj → Ans) → Ans := fun l H K => bindO (decAdisk_Disk_Sectors l H) fun a => vFdisk_Disk_Sectors a K
theorem Fdisk_Disk_Sectors_ok : FuncOk Try.prog 23 Fdisk_Disk_Sectors := func_mkD (hint := noHint) (d := 0) (n := 70) mixed tabOk envdisk_Disk_SectorsOk Try.func23 (bodySome (by kernel_rfl)) (by decide +kernel) anndisk_Disk_Sectors_ok decAdisk_Disk_Sectors_ok fndisk_Disk_Sectors_ok fndisk_Disk_Sectors_nat
--@ region_inside
noncomputable def envregion_inside : Env := []
theorem envregion_insideOk : EnvOk Try.prog envregion_inside := EnvOk.nil
noncomputable def bregion_inside : Code := Try.f67.body.getD .skip
noncomputable def Lregion_inside_n0 : Code := codeAt [1, 0] bregion_inside
noncomputable def annLregion_inside_n0 : Ann := .none
theorem annLregion_inside_n0_ok : AnnOk Try.prog 25 Lregion_inside_n0 annLregion_inside_n0 := (annOk_none _ _ _)
abbrev Iregion_inside_n0 := (Int) × (Int) × (Int)
abbrev Yregion_inside_n0 := (Bool)
def Sregion_inside_n0 : Iregion_inside_n0 → St := fun (t0, t1, t2) => { env := [(0, AV.int IntKind.i64 t0), (1, AV.int IntKind.i64 t1), (2, AV.int IntKind.i64 t2)], stk := [[]], H := [], blk := 274432 }
def decregion_inside_n0 (s : St) : Option Iregion_inside_n0 := match s with
  | { env := [(0, AV.int IntKind.i64 t0), (1, AV.int IntKind.i64 t1), (2, AV.int IntKind.i64 t2)], stk := [[]], H := [], blk := 274432 } => some (t0, t1, t2)
  | _ => none
theorem decregion_inside_n0_ok (s : St) (x : Iregion_inside_n0) (h : decregion_inside_n0 s = some x) : s = Sregion_inside_n0 x := by
  unfold decregion_inside_n0 at h
  split at h
  · cases h; rfl
  · cases h
def outregion_inside_n0 : Iregion_inside_n0 → (Ex → St → Ans) → Yregion_inside_n0 → Ans := fun (t0, t1, t2) K => fun t6_y => K (Ex.norm) { env := [(6, AV.bool t6_y)], stk := [[]], H := [], blk := 274432 }
def noderegion_inside_n0 {β : Type} : Iregion_inside_n0 → (Yregion_inside_n0 → Option β) → Option β := fun (t0, t1, t2) exit => (bif decide (t0 ≥ (0 : Int)) then (bif decide (t1 ≥ (0 : Int)) then (bif decide (t0 ≤ t2) then (exit (decide (t1 ≤ IntKind.wrap IntKind.i64 (t2 - t0)))) else (exit (false))) else (exit (false))) else (exit (false)))
def nodeDregion_inside_n0 (i : Iregion_inside_n0) : Option Yregion_inside_n0 := noderegion_inside_n0 i some
theorem noderegion_inside_n0_nat (i : Iregion_inside_n0) (k : Yregion_inside_n0 → Ans) : noderegion_inside_n0 i k = bindO (nodeDregion_inside_n0 i) k := by
  obtain ⟨t0, t1, t2⟩ := i
  simp only [nodeDregion_inside_n0, noderegion_inside_n0, bindO_cond, bindO_assoc, bindO_none, bindO_pure, bindO_elim, bindO_unP]
theorem noderegion_inside_n0_ok (i : Iregion_inside_n0) (K : Ex → St → Ans) : codeI Try.tab envregion_inside noHint (codeD Try.tab envregion_inside noHint 0 64) 70 25 annLregion_inside_n0 Lregion_inside_n0 (weakP 0 (exk [6] [6] []) K) (Sregion_inside_n0 i) = noderegion_inside_n0 i (outregion_inside_n0 i K) := by kernel_rfl
theorem GNregion_inside_n0_ok : CSum Try.prog 25 Lregion_inside_n0 (sumN decregion_inside_n0 nodeDregion_inside_n0 outregion_inside_n0) := csum_node mixed tabOk envregion_insideOk 0 (exk [6] [6] []) annLregion_inside_n0_ok decregion_inside_n0_ok noderegion_inside_n0_ok noderegion_inside_n0_nat
noncomputable def Gregion_inside_n0 : (Ex → St → Ans) → St → Ans := (sumN decregion_inside_n0 nodeDregion_inside_n0 outregion_inside_n0)
theorem Gregion_inside_n0_ok : CSum Try.prog 25 Lregion_inside_n0 Gregion_inside_n0 := GNregion_inside_n0_ok
noncomputable def annregion_inside : Ann := (.seq .none (.seq (.cut 0 [0, 1, 2] Gregion_inside_n0) .none))
theorem annregion_inside_ok : AnnOk Try.prog 25 bregion_inside annregion_inside := ⟨(annOk_none _ _ _), ⟨Gregion_inside_n0_ok, (annOk_none _ _ _)⟩⟩
abbrev Aregion_inside := (Int) × (Int) × (Int)
abbrev Yregion_inside := (Bool)
def fnregion_inside {β : Type} : Aregion_inside → (Yregion_inside → Option β) → Option β := fun (a0, a1, a2) exit => (bindO (nodeDregion_inside_n0 (a0, a1, a2)) fun t6 => (exit (t6)))
def fnDregion_inside (a : Aregion_inside) : Option Yregion_inside := fnregion_inside a some
theorem fnregion_inside_nat (a : Aregion_inside) (k : Yregion_inside → Ans) : fnregion_inside a k = bindO (fnDregion_inside a) k := by
  obtain ⟨a0, a1, a2⟩ := a
  simp only [fnDregion_inside, fnregion_inside, bindO_cond, bindO_assoc, bindO_none, bindO_pure, bindO_elim, bindO_unP]
def argsregion_inside : Aregion_inside → List AV := fun (a0, a1, a2) => [AV.int IntKind.i64 a0, AV.int IntKind.i64 a1, AV.int IntKind.i64 a2]
def decAregion_inside (l : List AV) : Option Aregion_inside := match l with
  | [AV.int IntKind.i64 a0, AV.int IntKind.i64 a1, AV.int IntKind.i64 a2] => some (a0, a1, a2)
  | _ => none
theorem decAregion_inside_ok (l : List AV) (a : Aregion_inside) (h : decAregion_inside l = some a) : l = argsregion_inside a := by
  unfold decAregion_inside at h
  split at h
  · cases h; rfl
  · cases h
def rendregion_inside : Aregion_inside → Yregion_inside → AV := fun (a0, a1, a2) => fun r_y => AV.bool r_y
theorem rendregion_inside_ok : ∀ (a : Aregion_inside) (y : Yregion_inside), (rendregion_inside a y).closed1 = true := by
  rintro ⟨a0, a1, a2⟩ y <;> first | rfl | exact Empty.elim y
theorem fnregion_inside_ok (a : Aregion_inside) : fnE Try.tab envregion_inside noHint 0 70 67 Try.f67.ntmps Try.f67.results.toList annregion_inside bregion_inside (argsregion_inside a) [] (fun v _ => some (v, [])) = fnregion_inside a (fun y => some (rendregion_inside a y, [])) := by kernel_rfl
def vFregion_inside (a : Aregion_inside) (K : AV → Ans) : Ans := bindO (fnDregion_inside a) fun y => K (rendregion_inside a y)
def Fregion_inside : List AV → (AV → Ans) → Ans := fun l K => bindO (decAregion_inside l) fun a => vFregion_inside a K
theorem Fregion_inside_ok : PureOk Try.prog 67 Fregion_inside := pure_mkD (hint := noHint) (d := 0) (n := 70) mixed tabOk envregion_insideOk Try.func67 (bodySome (by kernel_rfl)) (by decide +kernel) annregion_inside_ok decAregion_inside_ok fnregion_inside_ok fnregion_inside_nat rendregion_inside_ok
--@ region_New
noncomputable def envregion_New : Env := [(23, .func Fdisk_Disk_Sectors), (67, .pure Fregion_inside)]
theorem envregion_NewOk : EnvOk Try.prog envregion_New := EnvOk.cons Fdisk_Disk_Sectors_ok (EnvOk.cons Fregion_inside_ok (EnvOk.nil))
noncomputable def bregion_New : Code := Try.f28.body.getD .skip
noncomputable def annregion_New : Ann := .none
theorem annregion_New_ok : AnnOk Try.prog 19 bregion_New annregion_New := (annOk_none _ _ _)
abbrev Aregion_New := (Int) × (Int) × (Int) × (Int) × (Bool) × (List (List UInt8)) × (List (Int × List UInt8)) × (List (Int × List UInt8)) × (List Int)
abbrev Yregion_New := (Unit) ⊕ (Unit)
def fnregion_New {β : Type} : Aregion_New → (Yregion_New → Option β) → Option β := fun (a1, a2, o0_3, o0_5, o0_6, o1, o2, o3, o4) exit => (bindO (fnDdisk_Disk_Sectors (o0_3, o0_5, o0_6, o1, o2, o3, o4)) fun r => (bindO (fnDregion_inside (a1, a2, r)) fun r_2 => (bif !r_2 then (exit (Sum.inl ())) else (exit (Sum.inr ())))))
def fnDregion_New (a : Aregion_New) : Option Yregion_New := fnregion_New a some
theorem fnregion_New_nat (a : Aregion_New) (k : Yregion_New → Ans) : fnregion_New a k = bindO (fnDregion_New a) k := by
  obtain ⟨a1, a2, o0_3, o0_5, o0_6, o1, o2, o3, o4⟩ := a
  simp only [fnDregion_New, fnregion_New, bindO_cond, bindO_assoc, bindO_none, bindO_pure, bindO_elim, bindO_unP]
def argsregion_New : Aregion_New → List AV × List AE.Obj := fun (a1, a2, o0_3, o0_5, o0_6, o1, o2, o3, o4) => ([AV.ptr 0 0, AV.int IntKind.i64 a1, AV.int IntKind.i64 a2], [AE.Obj.cells [AV.own 1, AV.map 2, AV.own 3, AV.int IntKind.i64 o0_3, AV.own 4, AV.int IntKind.i64 o0_5, AV.bool o0_6], Obj.arr Ty.str o1, Obj.mp IntKind.i64 Ty.str o2, Obj.arr (Ty.st (Ty.pair (Ty.int IntKind.i64) Ty.str)) o3, Obj.arr (Ty.int IntKind.i64) o4])
def decAregion_New (l : List AV) (H : List AE.Obj) : Option Aregion_New := match l, H with
  | [AV.ptr 0 0, AV.int IntKind.i64 a1, AV.int IntKind.i64 a2], [AE.Obj.cells [AV.own 1, AV.map 2, AV.own 3, AV.int IntKind.i64 o0_3, AV.own 4, AV.int IntKind.i64 o0_5, AV.bool o0_6], Obj.arr Ty.str o1, Obj.mp IntKind.i64 Ty.str o2, Obj.arr (Ty.st (Ty.pair (Ty.int IntKind.i64) Ty.str)) o3, Obj.arr (Ty.int IntKind.i64) o4] => some (a1, a2, o0_3, o0_5, o0_6, o1, o2, o3, o4)
  | _, _ => none
theorem decAregion_New_ok (l : List AV) (H : List AE.Obj) (a : Aregion_New) (h : decAregion_New l H = some a) : (l, H) = argsregion_New a := by
  unfold decAregion_New at h
  split at h
  · cases h; rfl
  · cases h
def outregion_New : Aregion_New → (AV → List AE.Obj → Ans) → Yregion_New → Ans := fun (a1, a2, o0_3, o0_5, o0_6, o1, o2, o3, o4) K => (Sum.elim (fun _ => K (AV.tup [AV.nilp, AV.int IntKind.i64 (3)]) [AE.Obj.cells [AV.own 1, AV.map 2, AV.own 3, AV.int IntKind.i64 o0_3, AV.own 4, AV.int IntKind.i64 o0_5, AV.bool o0_6], Obj.arr Ty.str o1, Obj.mp IntKind.i64 Ty.str o2, Obj.arr (Ty.st (Ty.pair (Ty.int IntKind.i64) Ty.str)) o3, Obj.arr (Ty.int IntKind.i64) o4]) (fun _ => K (AV.tup [AV.ptr 5 0, AV.int IntKind.i64 (0)]) [AE.Obj.cells [AV.own 1, AV.map 2, AV.own 3, AV.int IntKind.i64 o0_3, AV.own 4, AV.int IntKind.i64 o0_5, AV.bool o0_6], Obj.arr Ty.str o1, Obj.mp IntKind.i64 Ty.str o2, Obj.arr (Ty.st (Ty.pair (Ty.int IntKind.i64) Ty.str)) o3, Obj.arr (Ty.int IntKind.i64) o4, AE.Obj.cells [AV.ptr 0 0, AV.int IntKind.i64 a1, AV.int IntKind.i64 a2]]))
theorem fnregion_New_ok (a : Aregion_New) (K : AV → List AE.Obj → Ans) : fnE Try.tab envregion_New noHint 0 70 28 Try.f28.ntmps Try.f28.results.toList annregion_New bregion_New (argsregion_New a).1 (argsregion_New a).2 K = fnregion_New a (outregion_New a K) := by kernel_rfl
def vFregion_New (a : Aregion_New) (K : AV → List AE.Obj → Ans) : Ans := bindO (fnDregion_New a) fun y => outregion_New a K y
def Fregion_New : List AV → List AE.Obj → (AV → List AE.Obj → Ans) → Ans := fun l H K => bindO (decAregion_New l H) fun a => vFregion_New a K
theorem Fregion_New_ok : FuncOk Try.prog 28 Fregion_New := func_mkD (hint := noHint) (d := 0) (n := 70) mixed tabOk envregion_NewOk Try.func28 (bodySome (by kernel_rfl)) (by decide +kernel) annregion_New_ok decAregion_New_ok fnregion_New_ok fnregion_New_nat
--@ region_Region_Place
noncomputable def envregion_Region_Place : Env := []
theorem envregion_Region_PlaceOk : EnvOk Try.prog envregion_Region_Place := EnvOk.nil
noncomputable def bregion_Region_Place : Code := Try.f33.body.getD .skip
noncomputable def Lregion_Region_Place_n0 : Code := codeAt [1, 0] bregion_Region_Place
noncomputable def annLregion_Region_Place_n0 : Ann := .none
theorem annLregion_Region_Place_n0_ok : AnnOk Try.prog 26 Lregion_Region_Place_n0 annLregion_Region_Place_n0 := (annOk_none _ _ _)
abbrev Iregion_Region_Place_n0 := (Int)
abbrev Yregion_Region_Place_n0 := Unit
def Sregion_Region_Place_n0 : Iregion_Region_Place_n0 → St := fun t1 => { env := [(0, AV.nilp), (1, AV.int IntKind.i64 t1)], stk := [[]], H := [], blk := 135168 }
def decregion_Region_Place_n0 (s : St) : Option Iregion_Region_Place_n0 := match s with
  | { env := [(0, AV.nilp), (1, AV.int IntKind.i64 t1)], stk := [[]], H := [], blk := 135168 } => some (t1)
  | _ => none
theorem decregion_Region_Place_n0_ok (s : St) (x : Iregion_Region_Place_n0) (h : decregion_Region_Place_n0 s = some x) : s = Sregion_Region_Place_n0 x := by
  unfold decregion_Region_Place_n0 at h
  split at h
  · cases h; rfl
  · cases h
def outregion_Region_Place_n0 : Iregion_Region_Place_n0 → (Ex → St → Ans) → Yregion_Region_Place_n0 → Ans := fun t1 K => fun _ => K (Ex.ret) { env := [(4, AV.int IntKind.i64 (0)), (5, AV.int IntKind.i64 (10))], stk := [[]], H := [], blk := 135168 }
def noderegion_Region_Place_n0 {β : Type} : Iregion_Region_Place_n0 → (Yregion_Region_Place_n0 → Option β) → Option β := fun t1 exit => (exit ())
def nodeDregion_Region_Place_n0 (i : Iregion_Region_Place_n0) : Option Yregion_Region_Place_n0 := noderegion_Region_Place_n0 i some
theorem noderegion_Region_Place_n0_nat (i : Iregion_Region_Place_n0) (k : Yregion_Region_Place_n0 → Ans) : noderegion_Region_Place_n0 i k = bindO (nodeDregion_Region_Place_n0 i) k := by
  obtain z := i
  simp only [nodeDregion_Region_Place_n0, noderegion_Region_Place_n0, bindO_cond, bindO_assoc, bindO_none, bindO_pure, bindO_elim, bindO_unP]
theorem noderegion_Region_Place_n0_ok (i : Iregion_Region_Place_n0) (K : Ex → St → Ans) : codeI Try.tab envregion_Region_Place noHint (codeD Try.tab envregion_Region_Place noHint 0 64) 70 26 annLregion_Region_Place_n0 Lregion_Region_Place_n0 (weakP 0 (exk [0, 1] [4, 5] []) K) (Sregion_Region_Place_n0 i) = noderegion_Region_Place_n0 i (outregion_Region_Place_n0 i K) := by kernel_rfl
theorem GNregion_Region_Place_n0_ok : CSum Try.prog 26 Lregion_Region_Place_n0 (sumN decregion_Region_Place_n0 nodeDregion_Region_Place_n0 outregion_Region_Place_n0) := csum_node mixed tabOk envregion_Region_PlaceOk 0 (exk [0, 1] [4, 5] []) annLregion_Region_Place_n0_ok decregion_Region_Place_n0_ok noderegion_Region_Place_n0_ok noderegion_Region_Place_n0_nat
noncomputable def Gregion_Region_Place_n0 : (Ex → St → Ans) → St → Ans := (sumN decregion_Region_Place_n0 nodeDregion_Region_Place_n0 outregion_Region_Place_n0)
theorem Gregion_Region_Place_n0_ok : CSum Try.prog 26 Lregion_Region_Place_n0 Gregion_Region_Place_n0 := GNregion_Region_Place_n0_ok
noncomputable def annregion_Region_Place : Ann := (.seq .none (.seq (.cut 0 [0, 1] Gregion_Region_Place_n0) .none))
theorem annregion_Region_Place_ok : AnnOk Try.prog 26 bregion_Region_Place annregion_Region_Place := ⟨(annOk_none _ _ _), ⟨Gregion_Region_Place_n0_ok, (annOk_none _ _ _)⟩⟩
abbrev Aregion_Region_Place := (Int)
abbrev Yregion_Region_Place := Unit
def fnregion_Region_Place {β : Type} : Aregion_Region_Place → (Yregion_Region_Place → Option β) → Option β := fun a1 exit => (bindO (nodeDregion_Region_Place_n0 (a1)) fun _ => (exit ()))
def fnDregion_Region_Place (a : Aregion_Region_Place) : Option Yregion_Region_Place := fnregion_Region_Place a some
theorem fnregion_Region_Place_nat (a : Aregion_Region_Place) (k : Yregion_Region_Place → Ans) : fnregion_Region_Place a k = bindO (fnDregion_Region_Place a) k := by
  obtain z := a
  simp only [fnDregion_Region_Place, fnregion_Region_Place, bindO_cond, bindO_assoc, bindO_none, bindO_pure, bindO_elim, bindO_unP]
def argsregion_Region_Place : Aregion_Region_Place → List AV × List AE.Obj := fun a1 => ([AV.nilp, AV.int IntKind.i64 a1], [])
def decAregion_Region_Place (l : List AV) (H : List AE.Obj) : Option Aregion_Region_Place := match l, H with
  | [AV.nilp, AV.int IntKind.i64 a1], [] => some (a1)
  | _, _ => none
theorem decAregion_Region_Place_ok (l : List AV) (H : List AE.Obj) (a : Aregion_Region_Place) (h : decAregion_Region_Place l H = some a) : (l, H) = argsregion_Region_Place a := by
  unfold decAregion_Region_Place at h
  split at h
  · cases h; rfl
  · cases h
def outregion_Region_Place : Aregion_Region_Place → (AV → List AE.Obj → Ans) → Yregion_Region_Place → Ans := fun a1 K => fun _ => K (AV.tup [AV.int IntKind.i64 (0), AV.int IntKind.i64 (10)]) []
theorem fnregion_Region_Place_ok (a : Aregion_Region_Place) (K : AV → List AE.Obj → Ans) : fnE Try.tab envregion_Region_Place noHint 0 70 33 Try.f33.ntmps Try.f33.results.toList annregion_Region_Place bregion_Region_Place (argsregion_Region_Place a).1 (argsregion_Region_Place a).2 K = fnregion_Region_Place a (outregion_Region_Place a K) := by kernel_rfl
def vFregion_Region_Place (a : Aregion_Region_Place) (K : AV → List AE.Obj → Ans) : Ans := bindO (fnDregion_Region_Place a) fun y => outregion_Region_Place a K y
def Fregion_Region_Place : List AV → List AE.Obj → (AV → List AE.Obj → Ans) → Ans := fun l H K => bindO (decAregion_Region_Place l H) fun a => vFregion_Region_Place a K
theorem Fregion_Region_Place_ok : FuncOk Try.prog 33 Fregion_Region_Place := func_mkD (hint := noHint) (d := 0) (n := 70) mixed tabOk envregion_Region_PlaceOk Try.func33 (bodySome (by kernel_rfl)) (by decide +kernel) annregion_Region_Place_ok decAregion_Region_Place_ok fnregion_Region_Place_ok fnregion_Region_Place_nat
--@ region_Region_Place_2
noncomputable def envregion_Region_Place_2 : Env := []
theorem envregion_Region_Place_2Ok : EnvOk Try.prog envregion_Region_Place_2 := EnvOk.nil
noncomputable def bregion_Region_Place_2 : Code := Try.f33.body.getD .skip
noncomputable def Lregion_Region_Place_2_n1 : Code := codeAt [1, 0, 0, 1, 1, 0] bregion_Region_Place_2
noncomputable def annLregion_Region_Place_2_n1 : Ann := .none
theorem annLregion_Region_Place_2_n1_ok : AnnOk Try.prog 26 Lregion_Region_Place_2_n1 annLregion_Region_Place_2_n1 := (annOk_none _ _ _)
abbrev Iregion_Region_Place_2_n1 := (Int) × (Int) × (Int) × (Int) × (Int) × (Bool) × (List (List UInt8)) × (List (Int × List UInt8)) × (List (Int × List UInt8)) × (List Int)
abbrev Yregion_Region_Place_2_n1 := (Bool)
def Sregion_Region_Place_2_n1 : Iregion_Region_Place_2_n1 → St := fun (t1, o0_1, o0_2, o1_3, o1_5, o1_6, o2, o3, o4, o5) => { env := [(0, AV.ptr 0 0), (1, AV.int IntKind.i64 t1)], stk := [[(0, AV.ptr 0 0), (1, AV.ptr 1 0)]], H := [AE.Obj.cells [AV.ptr 1 0, AV.int IntKind.i64 o0_1, AV.int IntKind.i64 o0_2], AE.Obj.cells [AV.own 2, AV.map 3, AV.own 4, AV.int IntKind.i64 o1_3, AV.own 5, AV.int IntKind.i64 o1_5, AV.bool o1_6], Obj.arr Ty.str o2, Obj.mp IntKind.i64 Ty.str o3, Obj.arr (Ty.st (Ty.pair (Ty.int IntKind.i64) Ty.str)) o4, Obj.arr (Ty.int IntKind.i64) o5], blk := 135168 }
def decregion_Region_Place_2_n1 (s : St) : Option Iregion_Region_Place_2_n1 := match s with
  | { env := [(0, AV.ptr 0 0), (1, AV.int IntKind.i64 t1)], stk := [[(0, AV.ptr 0 0), (1, AV.ptr 1 0)]], H := [AE.Obj.cells [AV.ptr 1 0, AV.int IntKind.i64 o0_1, AV.int IntKind.i64 o0_2], AE.Obj.cells [AV.own 2, AV.map 3, AV.own 4, AV.int IntKind.i64 o1_3, AV.own 5, AV.int IntKind.i64 o1_5, AV.bool o1_6], Obj.arr Ty.str o2, Obj.mp IntKind.i64 Ty.str o3, Obj.arr (Ty.st (Ty.pair (Ty.int IntKind.i64) Ty.str)) o4, Obj.arr (Ty.int IntKind.i64) o5], blk := 135168 } => some (t1, o0_1, o0_2, o1_3, o1_5, o1_6, o2, o3, o4, o5)
  | _ => none
theorem decregion_Region_Place_2_n1_ok (s : St) (x : Iregion_Region_Place_2_n1) (h : decregion_Region_Place_2_n1 s = some x) : s = Sregion_Region_Place_2_n1 x := by
  unfold decregion_Region_Place_2_n1 at h
  split at h
  · cases h; rfl
  · cases h
def outregion_Region_Place_2_n1 : Iregion_Region_Place_2_n1 → (Ex → St → Ans) → Yregion_Region_Place_2_n1 → Ans := fun (t1, o0_1, o0_2, o1_3, o1_5, o1_6, o2, o3, o4, o5) K => fun t9_y => K (Ex.norm) { env := [(0, AV.ptr 0 0), (1, AV.int IntKind.i64 t1), (9, AV.bool t9_y)], stk := [[(0, AV.ptr 0 0), (1, AV.ptr 1 0)]], H := [AE.Obj.cells [AV.ptr 1 0, AV.int IntKind.i64 o0_1, AV.int IntKind.i64 o0_2], AE.Obj.cells [AV.own 2, AV.map 3, AV.own 4, AV.int IntKind.i64 o1_3, AV.own 5, AV.int IntKind.i64 o1_5, AV.bool o1_6], Obj.arr Ty.str o2, Obj.mp IntKind.i64 Ty.str o3, Obj.arr (Ty.st (Ty.pair (Ty.int IntKind.i64) Ty.str)) o4, Obj.arr (Ty.int IntKind.i64) o5], blk := 135168 }
def noderegion_Region_Place_2_n1 {β : Type} : Iregion_Region_Place_2_n1 → (Yregion_Region_Place_2_n1 → Option β) → Option β := fun (t1, o0_1, o0_2, o1_3, o1_5, o1_6, o2, o3, o4, o5) exit => (bif decide (t1 < (0 : Int)) then (exit (true)) else (exit (decide (t1 ≥ o0_2))))
def nodeDregion_Region_Place_2_n1 (i : Iregion_Region_Place_2_n1) : Option Yregion_Region_Place_2_n1 := noderegion_Region_Place_2_n1 i some
theorem noderegion_Region_Place_2_n1_nat (i : Iregion_Region_Place_2_n1) (k : Yregion_Region_Place_2_n1 → Ans) : noderegion_Region_Place_2_n1 i k = bindO (nodeDregion_Region_Place_2_n1 i) k := by
  obtain ⟨t1, o0_1, o0_2, o1_3, o1_5, o1_6, o2, o3, o4, o5⟩ := i
  simp only [nodeDregion_Region_Place_2_n1, noderegion_Region_Place_2_n1, bindO_cond, bindO_assoc, bindO_none, bindO_pure, bindO_elim, bindO_unP]
theorem noderegion_Region_Place_2_n1_ok (i : Iregion_Region_Place_2_n1) (K : Ex → St → Ans) : codeI Try.tab envregion_Region_Place_2 noHint (codeD Try.tab envregion_Region_Place_2 noHint 0 64) 70 26 annLregion_Region_Place_2_n1 Lregion_Region_Place_2_n1 (weakP 6 (exk [0, 1, 9] [4, 5] []) K) (Sregion_Region_Place_2_n1 i) = noderegion_Region_Place_2_n1 i (outregion_Region_Place_2_n1 i K) := by kernel_rfl
theorem GNregion_Region_Place_2_n1_ok : CSum Try.prog 26 Lregion_Region_Place_2_n1 (sumN decregion_Region_Place_2_n1 nodeDregion_Region_Place_2_n1 outregion_Region_Place_2_n1) := csum_node mixed tabOk envregion_Region_Place_2Ok 6 (exk [0, 1, 9] [4, 5] []) annLregion_Region_Place_2_n1_ok decregion_Region_Place_2_n1_ok noderegion_Region_Place_2_n1_ok noderegion_Region_Place_2_n1_nat
noncomputable def Gregion_Region_Place_2_n1 : (Ex → St → Ans) → St → Ans := (sumN decregion_Region_Place_2_n1 nodeDregion_Region_Place_2_n1 outregion_Region_Place_2_n1)
theorem Gregion_Region_Place_2_n1_ok : CSum Try.prog 26 Lregion_Region_Place_2_n1 Gregion_Region_Place_2_n1 := GNregion_Region_Place_2_n1_ok
noncomputable def Lregion_Region_Place_2_n0 : Code := codeAt [1, 0] bregion_Region_Place_2
noncomputable def annLregion_Region_Place_2_n0 : Ann := (.block (.seq .none (.cond .none (.seq (.cut 6 [0, 1] Gregion_Region_Place_2_n1) .none))))
theorem annLregion_Region_Place_2_n0_ok : AnnOk Try.prog 26 Lregion_Region_Place_2_n0 annLregion_Region_Place_2_n0 := ⟨(annOk_none _ _ _), ⟨(annOk_none _ _ _), ⟨Gregion_Region_Place_2_n1_ok, (annOk_none _ _ _)⟩⟩⟩
abbrev Iregion_Region_Place_2_n0 := (Int) × (Int) × (Int) × (Int) × (Int) × (Bool) × (List (List UInt8)) × (List (Int × List UInt8)) × (List (Int × List UInt8)) × (List Int)
abbrev Yregion_Region_Place_2_n0 := (Unit) ⊕ (Unit)
def Sregion_Region_Place_2_n0 : Iregion_Region_Place_2_n0 → St := fun (t1, o0_1, o0_2, o1_3, o1_5, o1_6, o2, o3, o4, o5) => { env := [(0, AV.ptr 0 0), (1, AV.int IntKind.i64 t1)], stk := [[(0, AV.ptr 0 0), (1, AV.ptr 1 0)]], H := [AE.Obj.cells [AV.ptr 1 0, AV.int IntKind.i64 o0_1, AV.int IntKind.i64 o0_2], AE.Obj.cells [AV.own 2, AV.map 3, AV.own 4, AV.int IntKind.i64 o1_3, AV.own 5, AV.int IntKind.i64 o1_5, AV.bool o1_6], Obj.arr Ty.str o2, Obj.mp IntKind.i64 Ty.str o3, Obj.arr (Ty.st (Ty.pair (Ty.int IntKind.i64) Ty.str)) o4, Obj.arr (Ty.int IntKind.i64) o5], blk := 135168 }
def decregion_Region_Place_2_n0 (s : St) : Option Iregion_Region_Place_2_n0 := match s with
  | { env := [(0, AV.ptr 0 0), (1, AV.int IntKind.i64 t1)], stk := [[(0, AV.ptr 0 0), (1, AV.ptr 1 0)]], H := [AE.Obj.cells [AV.ptr 1 0, AV.int IntKind.i64 o0_1, AV.int IntKind.i64 o0_2], AE.Obj.cells [AV.own 2, AV.map 3, AV.own 4, AV.int IntKind.i64 o1_3, AV.own 5, AV.int IntKind.i64 o1_5, AV.bool o1_6], Obj.arr Ty.str o2, Obj.mp IntKind.i64 Ty.str o3, Obj.arr (Ty.st (Ty.pair (Ty.int IntKind.i64) Ty.str)) o4, Obj.arr (Ty.int IntKind.i64) o5], blk := 135168 } => some (t1, o0_1, o0_2, o1_3, o1_5, o1_6, o2, o3, o4, o5)
  | _ => none
theorem decregion_Region_Place_2_n0_ok (s : St) (x : Iregion_Region_Place_2_n0) (h : decregion_Region_Place_2_n0 s = some x) : s = Sregion_Region_Place_2_n0 x := by
  unfold decregion_Region_Place_2_n0 at h
  split at h
  · cases h; rfl
  · cases h
def outregion_Region_Place_2_n0 : Iregion_Region_Place_2_n0 → (Ex → St → Ans) → Yregion_Region_Place_2_n0 → Ans := fun (t1, o0_1, o0_2, o1_3, o1_5, o1_6, o2, o3, o4, o5) K => (Sum.elim (fun _ => K (Ex.ret) { env := [(4, AV.int IntKind.i64 (0)), (5, AV.int IntKind.i64 (3))], stk := [[(0, AV.ptr 0 0), (1, AV.ptr 1 0)]], H := [AE.Obj.cells [AV.ptr 1 0, AV.int IntKind.i64 o0_1, AV.int IntKind.i64 o0_2], AE.Obj.cells [AV.own 2, AV.map 3, AV.own 4, AV.int IntKind.i64 o1_3, AV.own 5, AV.int IntKind.i64 o1_5, AV.bool o1_6], Obj.arr Ty.str o2, Obj.mp IntKind.i64 Ty.str o3, Obj.arr (Ty.st (Ty.pair (Ty.int IntKind.i64) Ty.str)) o4, Obj.arr (Ty.int IntKind.i64) o5], blk := 135168 }) (fun _ => K (Ex.norm) { env := [(0, AV.ptr 0 0), (1, AV.int IntKind.i64 t1)], stk := [[(0, AV.ptr 0 0), (1, AV.ptr 1 0)]], H := [AE.Obj.cells [AV.ptr 1 0, AV.int IntKind.i64 o0_1, AV.int IntKind.i64 o0_2], AE.Obj.cells [AV.own 2, AV.map 3, AV.own 4, AV.int IntKind.i64 o1_3, AV.own 5, AV.int IntKind.i64 o1_5, AV.bool o1_6], Obj.arr Ty.str o2, Obj.mp IntKind.i64 Ty.str o3, Obj.arr (Ty.st (Ty.pair (Ty.int IntKind.i64) Ty.str)) o4, Obj.arr (Ty.int IntKind.i64) o5], blk := 135168 }))
def noderegion_Region_Place_2_n0 {β : Type} : Iregion_Region_Place_2_n0 → (Yregion_Region_Place_2_n0 → Option β) → Option β := fun (t1, o0_1, o0_2, o1_3, o1_5, o1_6, o2, o3, o4, o5) exit => (bindO (nodeDregion_Region_Place_2_n1 (t1, o0_1, o0_2, o1_3, o1_5, o1_6, o2, o3, o4, o5)) fun t9 => (bif t9 then (exit (Sum.inl ())) else (exit (Sum.inr ()))))
def nodeDregion_Region_Place_2_n0 (i : Iregion_Region_Place_2_n0) : Option Yregion_Region_Place_2_n0 := noderegion_Region_Place_2_n0 i some
theorem noderegion_Region_Place_2_n0_nat (i : Iregion_Region_Place_2_n0) (k : Yregion_Region_Place_2_n0 → Ans) : noderegion_Region_Place_2_n0 i k = bindO (nodeDregion_Region_Place_2_n0 i) k := by
  obtain ⟨t1, o0_1, o0_2, o1_3, o1_5, o1_6, o2, o3, o4, o5⟩ := i
  simp only [nodeDregion_Region_Place_2_n0, noderegion_Region_Place_2_n0, bindO_cond, bindO_assoc, bindO_none, bindO_pure, bindO_elim, bindO_unP]
theorem noderegion_Region_Place_2_n0_ok (i : Iregion_Region_Place_2_n0) (K : Ex → St → Ans) : codeI Try.tab envregion_Region_Place_2 noHint (codeD Try.tab envregion_Region_Place_2 noHint 0 64) 70 26 annLregion_Region_Place_2_n0 Lregion_Region_Place_2_n0 (weakP 6 (exk [0, 1] [4, 5] []) K) (Sregion_Region_Place_2_n0 i) = noderegion_Region_Place_2_n0 i (outregion_Region_Place_2_n0 i K) := by kernel_rfl
theorem GNregion_Region_Place_2_n0_ok : CSum Try.prog 26 Lregion_Region_Place_2_n0 (sumN decregion_Region_Place_2_n0 nodeDregion_Region_Place_2_n0 outregion_Region_Place_2_n0) := csum_node mixed tabOk envregion_Region_Place_2Ok 6 (exk [0, 1] [4, 5] []) annLregion_Region_Place_2_n0_ok decregion_Region_Place_2_n0_ok noderegion_Region_Place_2_n0_ok noderegion_Region_Place_2_n0_nat
noncomputable def Gregion_Region_Place_2_n0 : (Ex → St → Ans) → St → Ans := (sumN decregion_Region_Place_2_n0 nodeDregion_Region_Place_2_n0 outregion_Region_Place_2_n0)
theorem Gregion_Region_Place_2_n0_ok : CSum Try.prog 26 Lregion_Region_Place_2_n0 Gregion_Region_Place_2_n0 := GNregion_Region_Place_2_n0_ok
noncomputable def annregion_Region_Place_2 : Ann := (.seq .none (.seq (.cut 6 [0, 1] Gregion_Region_Place_2_n0) .none))
theorem annregion_Region_Place_2_ok : AnnOk Try.prog 26 bregion_Region_Place_2 annregion_Region_Place_2 := ⟨(annOk_none _ _ _), ⟨Gregion_Region_Place_2_n0_ok, (annOk_none _ _ _)⟩⟩
abbrev Aregion_Region_Place_2 := (Int) × (Int) × (Int) × (Int) × (Int) × (Bool) × (List (List UInt8)) × (List (Int × List UInt8)) × (List (Int × List UInt8)) × (List Int)
abbrev Yregion_Region_Place_2 := (Int) × (Int)
def fnregion_Region_Place_2 {β : Type} : Aregion_Region_Place_2 → (Yregion_Region_Place_2 → Option β) → Option β := fun (a1, o0_1, o0_2, o1_3, o1_5, o1_6, o2, o3, o4, o5) exit => (bindO (nodeDregion_Region_Place_2_n0 (a1, o0_1, o0_2, o1_3, o1_5, o1_6, o2, o3, o4, o5)) (Sum.elim (fun _ => (exit ((0 : Int), (3 : Int)))) (fun _ => (exit (IntKind.wrap IntKind.i64 (o0_1 + a1), (0 : Int))))))
def fnDregion_Region_Place_2 (a : Aregion_Region_Place_2) : Option Yregion_Region_Place_2 := fnregion_Region_Place_2 a some
theorem fnregion_Region_Place_2_nat (a : Aregion_Region_Place_2) (k : Yregion_Region_Place_2 → Ans) : fnregion_Region_Place_2 a k = bindO (fnDregion_Region_Place_2 a) k := by
  obtain ⟨a1, o0_1, o0_2, o1_3, o1_5, o1_6, o2, o3, o4, o5⟩ := a
  simp only [fnDregion_Region_Place_2, fnregion_Region_Place_2, bindO_cond, bindO_assoc, bindO_none, bindO_pure, bindO_elim, bindO_unP]
def argsregion_Region_Place_2 : Aregion_Region_Place_2 → List AV × List AE.Obj := fun (a1, o0_1, o0_2, o1_3, o1_5, o1_6, o2, o3, o4, o5) => ([AV.ptr 0 0, AV.int IntKind.i64 a1], [AE.Obj.cells [AV.ptr 1 0, AV.int IntKind.i64 o0_1, AV.int IntKind.i64 o0_2], AE.Obj.cells [AV.own 2, AV.map 3, AV.own 4, AV.int IntKind.i64 o1_3, AV.own 5, AV.int IntKind.i64 o1_5, AV.bool o1_6], Obj.arr Ty.str o2, Obj.mp IntKind.i64 Ty.str o3, Obj.arr (Ty.st (Ty.pair (Ty.int IntKind.i64) Ty.str)) o4, Obj.arr (Ty.int IntKind.i64) o5])
def decAregion_Region_Place_2 (l : List AV) (H : List AE.Obj) : Option Aregion_Region_Place_2 := match l, H with
  | [AV.ptr 0 0, AV.int IntKind.i64 a1], [AE.Obj.cells [AV.ptr 1 0, AV.int IntKind.i64 o0_1, AV.int IntKind.i64 o0_2], AE.Obj.cells [AV.own 2, AV.map 3, AV.own 4, AV.int IntKind.i64 o1_3, AV.own 5, AV.int IntKind.i64 o1_5, AV.bool o1_6], Obj.arr Ty.str o2, Obj.mp IntKind.i64 Ty.str o3, Obj.arr (Ty.st (Ty.pair (Ty.int IntKind.i64) Ty.str)) o4, Obj.arr (Ty.int IntKind.i64) o5] => some (a1, o0_1, o0_2, o1_3, o1_5, o1_6, o2, o3, o4, o5)
  | _, _ => none
theorem decAregion_Region_Place_2_ok (l : List AV) (H : List AE.Obj) (a : Aregion_Region_Place_2) (h : decAregion_Region_Place_2 l H = some a) : (l, H) = argsregion_Region_Place_2 a := by
  unfold decAregion_Region_Place_2 at h
  split at h
  · cases h; rfl
  · cases h
def outregion_Region_Place_2 : Aregion_Region_Place_2 → (AV → List AE.Obj → Ans) → Yregion_Region_Place_2 → Ans := fun (a1, o0_1, o0_2, o1_3, o1_5, o1_6, o2, o3, o4, o5) K => unP fun r_0_y r_1_y => K (AV.tup [AV.int IntKind.i64 r_0_y, AV.int IntKind.i64 r_1_y]) [AE.Obj.cells [AV.ptr 1 0, AV.int IntKind.i64 o0_1, AV.int IntKind.i64 o0_2], AE.Obj.cells [AV.own 2, AV.map 3, AV.own 4, AV.int IntKind.i64 o1_3, AV.own 5, AV.int IntKind.i64 o1_5, AV.bool o1_6], Obj.arr Ty.str o2, Obj.mp IntKind.i64 Ty.str o3, Obj.arr (Ty.st (Ty.pair (Ty.int IntKind.i64) Ty.str)) o4, Obj.arr (Ty.int IntKind.i64) o5]
theorem fnregion_Region_Place_2_ok (a : Aregion_Region_Place_2) (K : AV → List AE.Obj → Ans) : fnE Try.tab envregion_Region_Place_2 noHint 0 70 33 Try.f33.ntmps Try.f33.results.toList annregion_Region_Place_2 bregion_Region_Place_2 (argsregion_Region_Place_2 a).1 (argsregion_Region_Place_2 a).2 K = fnregion_Region_Place_2 a (outregion_Region_Place_2 a K) := by kernel_rfl
def vFregion_Region_Place_2 (a : Aregion_Region_Place_2) (K : AV → List AE.Obj → Ans) : Ans := bindO (fnDregion_Region_Place_2 a) fun y => outregion_Region_Place_2 a K y
def Fregion_Region_Place_2 : List AV → List AE.Obj → (AV → List AE.Obj → Ans) → Ans := fun l H K => bindO (decAregion_Region_Place_2 l H) fun a => vFregion_Region_Place_2 a K
theorem Fregion_Region_Place_2_ok : FuncOk Try.prog 33 Fregion_Region_Place_2 := func_mkD (hint := noHint) (d := 0) (n := 70) mixed tabOk envregion_Region_Place_2Ok Try.func33 (bodySome (by kernel_rfl)) (by decide +kernel) annregion_Region_Place_2_ok decAregion_Region_Place_2_ok fnregion_Region_Place_2_ok fnregion_Region_Place_2_nat
--@ region_Pad
noncomputable def envregion_Pad : Env := [(58, .pure Fstrings_Repeat)]
theorem envregion_PadOk : EnvOk Try.prog envregion_Pad := EnvOk.cons Fstrings_Repeat_ok (EnvOk.nil)
noncomputable def bregion_Pad : Code := Try.f29.body.getD .skip
noncomputable def annregion_Pad : Ann := .none
theorem annregion_Pad_ok : AnnOk Try.prog 15 bregion_Pad annregion_Pad := (annOk_none _ _ _)
abbrev Aregion_Pad := (List UInt8)
abbrev Yregion_Pad := (List UInt8)
def fnregion_Pad {β : Type} : Aregion_Pad → (Yregion_Pad → Option β) → Option β := fun a0 exit => (bif decide (Int.tmod (↑(List.length a0) : Int) (64 : Int) > (0 : Int)) then (bindO (fnDstrings_Repeat ([(0 : UInt8)], IntKind.wrap IntKind.i64 ((64 : Int) - Int.tmod (↑(List.length a0) : Int) (64 : Int)))) fun r => (bif Nat.ble (List.length a0 + List.length r) (9223372036854775807 : Nat) then (exit (a0 ++ r)) else none)) else (exit (a0)))
def fnDregion_Pad (a : Aregion_Pad) : Option Yregion_Pad := fnregion_Pad a some
theorem fnregion_Pad_nat (a : Aregion_Pad) (k : Yregion_Pad → Ans) : fnregion_Pad a k = bindO (fnDregion_Pad a) k := by
  obtain z := a
  simp only [fnDregion_Pad, fnregion_Pad, bindO_cond, bindO_assoc, bindO_none, bindO_pure, bindO_elim, bindO_unP]
def argsregion_Pad : Aregion_Pad → List AV := fun a0 => [AV.str a0]
def decAregion_Pad (l : List AV) : Option Aregion_Pad := match l with
  | [AV.str a0] => some (a0)
  | _ => none
theorem decAregion_Pad_ok (l : List AV) (a : Aregion_Pad) (h : decAregion_Pad l = some a) : l = argsregion_Pad a := by
  unfold decAregion_Pad at h
  split at h
  · cases h; rfl
  · cases h
def rendregion_Pad : Aregion_Pad → Yregion_Pad → AV := fun a0 => fun r_y => AV.str r_y
theorem rendregion_Pad_ok : ∀ (a : Aregion_Pad) (y : Yregion_Pad), (rendregion_Pad a y).closed1 = true := by
  rintro z y <;> first | rfl | exact Empty.elim y
theorem fnregion_Pad_ok (a : Aregion_Pad) : fnE Try.tab envregion_Pad noHint 0 70 29 Try.f29.ntmps Try.f29.results.toList annregion_Pad bregion_Pad (argsregion_Pad a) [] (fun v _ => some (v, [])) = fnregion_Pad a (fun y => some (rendregion_Pad a y, [])) := by kernel_rfl
def vFregion_Pad (a : Aregion_Pad) (K : AV → Ans) : Ans := bindO (fnDregion_Pad a) fun y => K (rendregion_Pad a y)
def Fregion_Pad : List AV → (AV → Ans) → Ans := fun l K => bindO (decAregion_Pad l) fun a => vFregion_Pad a K
theorem Fregion_Pad_ok : PureOk Try.prog 29 Fregion_Pad := pure_mkD (hint := noHint) (d := 0) (n := 70) mixed tabOk envregion_PadOk Try.func29 (bodySome (by kernel_rfl)) (by decide +kernel) annregion_Pad_ok decAregion_Pad_ok fnregion_Pad_ok fnregion_Pad_nat rendregion_Pad_ok
--@ region_Region_Split
noncomputable def envregion_Region_Split : Env := [(67, .pure Fregion_inside)]
theorem envregion_Region_SplitOk : EnvOk Try.prog envregion_Region_Split := EnvOk.cons Fregion_inside_ok (EnvOk.nil)
noncomputable def bregion_Region_Split : Code := Try.f34.body.getD .skip
noncomputable def Lregion_Region_Split_n0 : Code := codeAt [1, 1, 1, 1, 0, 1, 0, 0] bregion_Region_Split
noncomputable def annLregion_Region_Split_n0 : Ann := .at 6 [2, 9, 10] (.loop .none)
theorem annLregion_Region_Split_n0_ok : AnnOk Try.prog 52 (.loop Lregion_Region_Split_n0) annLregion_Region_Split_n0 := annOk_at (annOk_none _ _ _)
abbrev Iregion_Region_Split_n0 := (Int) × (Int) × (Int) × (Int) × (Bool) × (List (List UInt8)) × (List (Int × List UInt8)) × (List (Int × List UInt8)) × (List Int)
abbrev Yregion_Region_Split_n0 := (List (Int × List UInt8))
abbrev Vregion_Region_Split_n0 := (List UInt8) × (Int) × (List (Int × List UInt8))
def Sregion_Region_Split_n0 : Iregion_Region_Split_n0 → Vregion_Region_Split_n0 → St := fun (o0_1, o0_2, o1_3, o1_5, o1_6, o2, o3, o4, o5) (t2, t10, o6) => { env := [(2, AV.str t2), (9, AV.own 6), (10, AV.int IntKind.i64 t10)], stk := [[(0, AV.ptr 0 0), (1, AV.ptr 1 0)]], H := [AE.Obj.cells [AV.ptr 1 0, AV.int IntKind.i64 o0_1, AV.int IntKind.i64 o0_2], AE.Obj.cells [AV.own 2, AV.map 3, AV.own 4, AV.int IntKind.i64 o1_3, AV.own 5, AV.int IntKind.i64 o1_5, AV.bool o1_6], Obj.arr Ty.str o2, Obj.mp IntKind.i64 Ty.str o3, Obj.arr (Ty.st (Ty.pair (Ty.int IntKind.i64) Ty.str)) o4, Obj.arr (Ty.int IntKind.i64) o5, Obj.arr (Ty.st (Ty.pair (Ty.int IntKind.i64) Ty.str)) o6], blk := 139265 }
def decregion_Region_Split_n0 (s : St) : Option (Iregion_Region_Split_n0 × Vregion_Region_Split_n0) := match s with
  | { env := [(2, AV.str t2), (9, AV.own 6), (10, AV.int IntKind.i64 t10)], stk := [[(0, AV.ptr 0 0), (1, AV.ptr 1 0)]], H := [AE.Obj.cells [AV.ptr 1 0, AV.int IntKind.i64 o0_1, AV.int IntKind.i64 o0_2], AE.Obj.cells [AV.own 2, AV.map 3, AV.own 4, AV.int IntKind.i64 o1_3, AV.own 5, AV.int IntKind.i64 o1_5, AV.bool o1_6], Obj.arr Ty.str o2, Obj.mp IntKind.i64 Ty.str o3, Obj.arr (Ty.st (Ty.pair (Ty.int IntKind.i64) Ty.str)) o4, Obj.arr (Ty.int IntKind.i64) o5, Obj.arr (Ty.st (Ty.pair (Ty.int IntKind.i64) Ty.str)) o6], blk := 139265 } => some ((o0_1, o0_2, o1_3, o1_5, o1_6, o2, o3, o4, o5), (t2, t10, o6))
  | _ => none
theorem decregion_Region_Split_n0_ok (s : St) (x : Iregion_Region_Split_n0 × Vregion_Region_Split_n0) (h : decregion_Region_Split_n0 s = some x) : s = Sregion_Region_Split_n0 x.1 x.2 := by
  unfold decregion_Region_Split_n0 at h
  split at h
  · cases h; rfl
  · cases h
def outregion_Region_Split_n0 : Iregion_Region_Split_n0 → (Ex → St → Ans) → Yregion_Region_Split_n0 → Ans := fun (o0_1, o0_2, o1_3, o1_5, o1_6, o2, o3, o4, o5) K => fun o6_y => K (Ex.exit 1) { env := [(9, AV.own 6)], stk := [[(0, AV.ptr 0 0), (1, AV.ptr 1 0)]], H := [AE.Obj.cells [AV.ptr 1 0, AV.int IntKind.i64 o0_1, AV.int IntKind.i64 o0_2], AE.Obj.cells [AV.own 2, AV.map 3, AV.own 4, AV.int IntKind.i64 o1_3, AV.own 5, AV.int IntKind.i64 o1_5, AV.bool o1_6], Obj.arr Ty.str o2, Obj.mp IntKind.i64 Ty.str o3, Obj.arr (Ty.st (Ty.pair (Ty.int IntKind.i64) Ty.str)) o4, Obj.arr (Ty.int IntKind.i64) o5, Obj.arr (Ty.st (Ty.pair (Ty.int IntKind.i64) Ty.str)) o6_y], blk := 139265 }
def stepregion_Region_Split_n0 {β : Type} : Iregion_Region_Split_n0 → Vregion_Region_Split_n0 → (Vregion_Region_Split_n0 → Option β) → (Yregion_Region_Split_n0 → Option β) → Option β := fun (o0_1, o0_2, o1_3, o1_5, o1_6, o2, o3, o4, o5) (t2, t10, o6) next exit => (bif !t2 == [] then (bif inR (64 : Int) (List.length t2 + (1 : Nat)) then (bif Nat.ble ((List.length o6 + List.length [(t10, List.take (64 : Nat) t2)]) * (24 : Nat)) (140737488355328 : Nat) then (bif inR (64 : Int) (List.length t2 + (1 : Nat)) then (next (List.drop (64 : Nat) t2, IntKind.wrap IntKind.i64 (t10 + (1 : Int)), o6 ++ [(t10, List.take (64 : Nat) t2)])) else none) else none) else none) else (exit (o6)))
def stepDregion_Region_Split_n0 (i : Iregion_Region_Split_n0) (v : Vregion_Region_Split_n0) : Option (Vregion_Region_Split_n0 ⊕ Yregion_Region_Split_n0) := stepregion_Region_Split_n0 i v (fun v => some (.inl v)) (fun y => some (.inr y))
theorem stepregion_Region_Split_n0_nat (i : Iregion_Region_Split_n0) (v : Vregion_Region_Split_n0) (next : Vregion_Region_Split_n0 → Ans) (exit : Yregion_Region_Split_n0 → Ans) : stepregion_Region_Split_n0 i v next exit = bindO (stepDregion_Region_Split_n0 i v) (Sum.elim next exit) := by
  obtain ⟨o0_1, o0_2, o1_3, o1_5, o1_6, o2, o3, o4, o5⟩ := i
  obtain ⟨t2, t10, o6⟩ := v
  simp only [stepDregion_Region_Split_n0, stepregion_Region_Split_n0, bindO_cond, bindO_assoc, bindO_none, bindO_pure, bindO_elim, bindO_unP, Sum.elim_inl, Sum.elim_inr]
theorem stepregion_Region_Split_n0_ok (n : Nat) (i : Iregion_Region_Split_n0) (v : Vregion_Region_Split_n0) (K : Ex → St → Ans) : codeI Try.tab envregion_Region_Split noHint (codeD Try.tab envregion_Region_Split noHint 0 64) (n+1) 52 annLregion_Region_Split_n0 (.loop Lregion_Region_Split_n0) (weakP 6 (exk [9] [6, 7] [(1, [9])]) K) (Sregion_Region_Split_n0 i v) = stepregion_Region_Split_n0 i v (fun v' => codeI Try.tab envregion_Region_Split noHint (codeD Try.tab envregion_Region_Split noHint 0 64) n 52 annLregion_Region_Split_n0 (.loop Lregion_Region_Split_n0) (weakP 6 (exk [9] [6, 7] [(1, [9])]) K) (Sregion_Region_Split_n0 i v')) (fun y => outregion_Region_Split_n0 i K y) := by kernel_rfl
theorem GNregion_Region_Split_n0_ok : CSum Try.prog 52 (.loop Lregion_Region_Split_n0) (sumL decregion_Region_Split_n0 stepDregion_Region_Split_n0 outregion_Region_Split_n0) := csum_loop mixed tabOk envregion_Region_SplitOk 6 (exk [9] [6, 7] [(1, [9])]) annLregion_Region_Split_n0_ok decregion_Region_Split_n0_ok stepregion_Region_Split_n0_ok stepregion_Region_Split_n0_nat
noncomputable def Gregion_Region_Split_n0 : (Ex → St → Ans) → St → Ans := (sumL decregion_Region_Split_n0 stepDregion_Region_Split_n0 outregion_Region_Split_n0)
theorem Gregion_Region_Split_n0_ok : CSum Try.prog 52 (.loop Lregion_Region_Split_n0) Gregion_Region_Split_n0 := GNregion_Region_Split_n0_ok
noncomputable def annregion_Region_Split : Ann := (.seq .none (.seq .none (.seq .none (.seq .none (.seq (.seq .none (.block (.cut 6 [2, 9, 10] Gregion_Region_Split_n0))) .none)))))
theorem annregion_Region_Split_ok : AnnOk Try.prog 52 bregion_Region_Split annregion_Region_Split := ⟨(annOk_none _ _ _), ⟨(annOk_none _ _ _), ⟨(annOk_none _ _ _), ⟨(annOk_none _ _ _), ⟨⟨(annOk_none _ _ _), Gregion_Region_Split_n0_ok⟩, (annOk_none _ _ _)⟩⟩⟩⟩⟩
abbrev Aregion_Region_Split := (Int) × (List UInt8) × (Int) × (Int) × (Int) × (Int) × (Bool) × (List (List UInt8)) × (List (Int × List UInt8)) × (List (Int × List UInt8)) × (List Int)
abbrev Yregion_Region_Split := (Int) × (List (Int × List UInt8))
def fnregion_Region_Split {β : Type} : Aregion_Region_Split → (Yregion_Region_Split → Option β) → Option β := fun (a1, a2, o0_1, o0_2, o1_3, o1_5, o1_6, o2, o3, o4, o5) exit => (bif IntKind.wrap IntKind.i64 (IntKind.wrap IntKind.i64 (Int.tdiv (↑(List.length a2) : Int) (64 : Int)) * (64 : Int)) != (↑(List.length a2) : Int) then (exit ((12 : Int), [])) else (bindO (fnDregion_inside (a1, IntKind.wrap IntKind.i64 (Int.tdiv (↑(List.length a2) : Int) (64 : Int)), o0_2)) fun r => (bif !r then (exit ((3 : Int), [])) else (bindO (loopD (stepDregion_Region_Split_n0 (o0_1, o0_2, o1_3, o1_5, o1_6, o2, o3, o4, o5)) FUEL (a2, IntKind.wrap IntKind.i64 (o0_1 + a1), [])) fun o6 => (exit ((0 : Int), o6))))))
def fnDregion_Region_Split (a : Aregion_Region_Split) : Option Yregion_Region_Split := fnregion_Region_Split a some
theorem fnregion_Region_Split_nat (a : Aregion_Region_Split) (k : Yregion_Region_Split → Ans) : fnregion_Region_Split a k = bindO (fnDregion_Region_Split a) k := by
  obtain ⟨a1, a2, o0_1, o0_2, o1_3, o1_5, o1_6, o2, o3, o4, o5⟩ := a
  simp only [fnDregion_Region_Split, fnregion_Region_Split, bindO_cond, bindO_assoc, bindO_none, bindO_pure, bindO_elim, bindO_unP]
def argsregion_Region_Split : Aregion_Region_Split → List AV × List AE.Obj := fun (a1, a2, o0_1, o0_2, o1_3, o1_5, o1_6, o2, o3, o4, o5) => ([AV.ptr 0 0, AV.int IntKind.i64 a1, AV.str a2], [AE.Obj.cells [AV.ptr 1 0, AV.int IntKind.i64 o0_1, AV.int IntKind.i64 o0_2], AE.Obj.cells [AV.own 2, AV.map 3, AV.own 4, AV.int IntKind.i64 o1_3, AV.own 5, AV.int IntKind.i64 o1_5, AV.bool o1_6], Obj.arr Ty.str o2, Obj.mp IntKind.i64 Ty.str o3, Obj.arr (Ty.st (Ty.pair (Ty.int IntKind.i64) Ty.str)) o4, Obj.arr (Ty.int IntKind.i64) o5])
def decAregion_Region_Split (l : List AV) (H : List AE.Obj) : Option Aregion_Region_Split := match l, H with
  | [AV.ptr 0 0, AV.int IntKind.i64 a1, AV.str a2], [AE.Obj.cells [AV.ptr 1 0, AV.int IntKind.i64 o0_1, AV.int IntKind.i64 o0_2], AE.Obj.cells [AV.own 2, AV.map 3, AV.own 4, AV.int IntKind.i64 o1_3, AV.own 5, AV.int IntKind.i64 o1_5, AV.bool o1_6], Obj.arr Ty.str o2, Obj.mp IntKind.i64 Ty.str o3, Obj.arr (Ty.st (Ty.pair (Ty.int IntKind.i64) Ty.str)) o4, Obj.arr (Ty.int IntKind.i64) o5] => some (a1, a2, o0_1, o0_2, o1_3, o1_5, o1_6, o2, o3, o4, o5)
  | _, _ => none
theorem decAregion_Region_Split_ok (l : List AV) (H : List AE.Obj) (a : Aregion_Region_Split) (h : decAregion_Region_Split l H = some a) : (l, H) = argsregion_Region_Split a := by
  unfold decAregion_Region_Split at h
  split at h
  · cases h; rfl
  · cases h
def outregion_Region_Split : Aregion_Region_Split → (AV → List AE.Obj → Ans) → Yregion_Region_Split → Ans := fun (a1, a2, o0_1, o0_2, o1_3, o1_5, o1_6, o2, o3, o4, o5) K => unP fun r_1_y o6_y => K (AV.tup [AV.own 6, AV.int IntKind.i64 r_1_y]) [AE.Obj.cells [AV.ptr 1 0, AV.int IntKind.i64 o0_1, AV.int IntKind.i64 o0_2], AE.Obj.cells [AV.own 2, AV.map 3, AV.own 4, AV.int IntKind.i64 o1_3, AV.own 5, AV.int IntKind.i64 o1_5, AV.bool o1_6], Obj.arr Ty.str o2, Obj.mp IntKind.i64 Ty.str o3, Obj.arr (Ty.st (Ty.pair (Ty.int IntKind.i64) Ty.str)) o4, Obj.arr (Ty.int IntKind.i64) o5, Obj.arr (Ty.st (Ty.pair (Ty.int IntKind.i64) Ty.str)) o6_y]
theorem fnregion_Region_Split_ok (a : Aregion_Region_Split) (K : AV → List AE.Obj → Ans) : fnE Try.tab envregion_Region_Split noHint 0 70 34 Try.f34.ntmps Try.f34.results.toList annregion_Region_Split bregion_Region_Split (argsregion_Region_Split a).1 (argsregion_Region_Split a).2 K = fnregion_Region_Split a (outregion_Region_Split a K) := by kernel_rfl
def vFregion_Region_Split (a : Aregion_Region_Split) (K : AV → List AE.Obj → Ans) : Ans := bindO (fnDregion_Region_Split a) fun y => outregion_Region_Split a K y
def Fregion_Region_Split : List AV → List AE.Obj → (AV → List AE.Obj → Ans) → Ans := fun l H K => bindO (decAregion_Region_Split l H) fun a => vFregion_Region_Split a K
theorem Fregion_Region_Split_ok : FuncOk Try.prog 34 Fregion_Region_Split := func_mkD (hint := noHint) (d := 0) (n := 70) mixed tabOk envregion_Region_SplitOk Try.func34 (bodySome (by kernel_rfl)) (by decide +kernel) annregion_Region_Split_ok decAregion_Region_Split_ok fnregion_Region_Split_ok fnregion_Region_Split_nat
--@ slices_Index_int_int
noncomputable def envslices_Index_int_int : Env := []
theorem envslices_Index_int_intOk : EnvOk Try.prog envslices_Index_int_int := EnvOk.nil
noncomputable def bslices_Index_int_int : Code := Try.f85.body.getD .skip
noncomputable def Lslices_Index_int_int_n0 : Code := codeAt [1, 0, 1, 0, 0] bslices_Index_int_int
noncomputable def annLslices_Index_int_int_n0 : Ann := .at 0 [0, 1, 7, 8] (.loop .none)
theorem annLslices_Index_int_int_n0_ok : AnnOk Try.prog 19 (.loop Lslices_Index_int_int_n0) annLslices_Index_int_int_n0 := annOk_at (annOk_none _ _ _)
abbrev Islices_Index_int_int_n0 := (List Int) × (Int) × (Int)
abbrev Yslices_Index_int_int_n0 := ((Int)) ⊕ (Unit)
abbrev Vslices_Index_int_int_n0 := (Int)
def Sslices_Index_int_int_n0 : Islices_Index_int_int_n0 → Vslices_Index_int_int_n0 → St := fun (t0, t1, t7) t8 => { env := [(0, AV.ro (Ty.int IntKind.i64) t0), (1, AV.int IntKind.i64 t1), (7, AV.int IntKind.i64 t7), (8, AV.int IntKind.i64 t8)], stk := [[]], H := [], blk := 348160 }
def decslices_Index_int_int_n0 (s : St) : Option (Islices_Index_int_int_n0 × Vslices_Index_int_int_n0) := match s with
  | { env := [(0, AV.ro (Ty.int IntKind.i64) t0), (1, AV.int IntKind.i64 t1), (7, AV.int IntKind.i64 t7), (8, AV.int IntKind.i64 t8)], stk := [[]], H := [], blk := 348160 } => some ((t0, t1, t7), t8)
  | _ => none
theorem decslices_Index_int_int_n0_ok (s : St) (x : Islices_Index_int_int_n0 × Vslices_Index_int_int_n0) (h : decslices_Index_int_int_n0 s = some x) : s = Sslices_Index_int_int_n0 x.1 x.2 := by
  unfold decslices_Index_int_int_n0 at h
  split at h
  · cases h; rfl
  · cases h
def outslices_Index_int_int_n0 : Islices_Index_int_int_n0 → (Ex → St → Ans) → Yslices_Index_int_int_n0 → Ans := fun (t0, t1, t7) K => (Sum.elim (fun t4_y => K (Ex.ret) { env := [(4, AV.int IntKind.i64 t4_y)], stk := [[]], H := [], blk := 348161 }) (fun _ => K (Ex.exit 0) { env := [], stk := [[]], H := [], blk := 348160 }))
def stepslices_Index_int_int_n0 {β : Type} : Islices_Index_int_int_n0 → Vslices_Index_int_int_n0 → (Vslices_Index_int_int_n0 → Option β) → (Yslices_Index_int_int_n0 → Option β) → Option β := fun (t0, t1, t7) t8 next exit => (bif decide (t8 < t7) then (bindO (nth t0 t8) fun x => (bif t1 == x then (exit (Sum.inl (t8))) else (next (IntKind.wrap IntKind.i64 (t8 + (1 : Int)))))) else (exit (Sum.inr ())))
def stepDslices_Index_int_int_n0 (i : Islices_Index_int_int_n0) (v : Vslices_Index_int_int_n0) : Option (Vslices_Index_int_int_n0 ⊕ Yslices_Index_int_int_n0) := stepslices_Index_int_int_n0 i v (fun v => some (.inl v)) (fun y => some (.inr y))
theorem stepslices_Index_int_int_n0_nat (i : Islices_Index_int_int_n0) (v : Vslices_Index_int_int_n0) (next : Vslices_Index_int_int_n0 → Ans) (exit : Yslices_Index_int_int_n0 → Ans) : stepslices_Index_int_int_n0 i v next exit = bindO (stepDslices_Index_int_int_n0 i v) (Sum.elim next exit) := by
  obtain ⟨t0, t1, t7⟩ := i
  obtain z := v
  simp only [stepDslices_Index_int_int_n0, stepslices_Index_int_int_n0, bindO_cond, bindO_assoc, bindO_none, bindO_pure, bindO_elim, bindO_unP, Sum.elim_inl, Sum.elim_inr]
theorem stepslices_Index_int_int_n0_ok (n : Nat) (i : Islices_Index_int_int_n0) (v : Vslices_Index_int_int_n0) (K : Ex → St → Ans) : codeI Try.tab envslices_Index_int_int noHint (codeD Try.tab envslices_Index_int_int noHint 0 64) (n+1) 19 annLslices_Index_int_int_n0 (.loop Lslices_Index_int_int_n0) (weakP 0 (exk [] [4] [(0, [])]) K) (Sslices_Index_int_int_n0 i v) = stepslices_Index_int_int_n0 i v (fun v' => codeI Try.tab envslices_Index_int_int noHint (codeD Try.tab envslices_Index_int_int noHint 0 64) n 19 annLslices_Index_int_int_n0 (.loop Lslices_Index_int_int_n0) (weakP 0 (exk [] [4] [(0, [])]) K) (Sslices_Index_int_int_n0 i v')) (fun y => outslices_Index_int_int_n0 i K y) := by kernel_rfl
theorem GNslices_Index_int_int_n0_ok : CSum Try.prog 19 (.loop Lslices_Index_int_int_n0) (sumL decslices_Index_int_int_n0 stepDslices_Index_int_int_n0 outslices_Index_int_int_n0) := csum_loop mixed tabOk envslices_Index_int_intOk 0 (exk [] [4] [(0, [])]) annLslices_Index_int_int_n0_ok decslices_Index_int_int_n0_ok stepslices_Index_int_int_n0_ok stepslices_Index_int_int_n0_nat
noncomputable def Gslices_Index_int_int_n0 : (Ex → St → Ans) → St → Ans := (sumL decslices_Index_int_int_n0 stepDslices_Index_int_int_n0 outslices_Index_int_int_n0)
theorem Gslices_Index_int_int_n0_ok : CSum Try.prog 19 (.loop Lslices_Index_int_int_n0) Gslices_Index_int_int_n0 := GNslices_Index_int_int_n0_ok
noncomputable def annslices_Index_int_int : Ann := (.seq .none (.seq (.seq .none (.block (.cut 0 [0, 1, 7, 8] Gslices_Index_int_int_n0))) .none))
theorem annslices_Index_int_int_ok : AnnOk Try.prog 19 bslices_Index_int_int annslices_Index_int_int := ⟨(annOk_none _ _ _), ⟨⟨(annOk_none _ _ _), Gslices_Index_int_int_n0_ok⟩, (annOk_none _ _ _)⟩⟩
abbrev Aslices_Index_int_int := (List Int) × (Int)
abbrev Yslices_Index_int_int := (Int)
def fnslices_Index_int_int {β : Type} : Aslices_Index_int_int → (Yslices_Index_int_int → Option β) → Option β := fun (a0, a1) exit => (bindO (loopD (stepDslices_Index_int_int_n0 (a0, a1, (↑(List.length a0) : Int))) FUEL ((0 : Int))) (Sum.elim (fun t4 => (exit (t4))) (fun _ => (exit ((-1 : Int))))))
def fnDslices_Index_int_int (a : Aslices_Index_int_int) : Option Yslices_Index_int_int := fnslices_Index_int_int a some
theorem fnslices_Index_int_int_nat (a : Aslices_Index_int_int) (k : Yslices_Index_int_int → Ans) : fnslices_Index_int_int a k = bindO (fnDslices_Index_int_int a) k := by
  obtain ⟨a0, a1⟩ := a
  simp only [fnDslices_Index_int_int, fnslices_Index_int_int, bindO_cond, bindO_assoc, bindO_none, bindO_pure, bindO_elim, bindO_unP]
def argsslices_Index_int_int : Aslices_Index_int_int → List AV := fun (a0, a1) => [AV.ro (Ty.int IntKind.i64) a0, AV.int IntKind.i64 a1]
def decAslices_Index_int_int (l : List AV) : Option Aslices_Index_int_int := match l with
  | [AV.ro (Ty.int IntKind.i64) a0, AV.int IntKind.i64 a1] => some (a0, a1)
  | _ => none
theorem decAslices_Index_int_int_ok (l : List AV) (a : Aslices_Index_int_int) (h : decAslices_Index_int_int l = some a) : l = argsslices_Index_int_int a := by
  unfold decAslices_Index_int_int at h
  split at h
  · cases h; rfl
  · cases h
def rendslices_Index_int_int : Aslices_Index_int_int → Yslices_Index_int_int → AV := fun (a0, a1) => fun r_y => AV.int IntKind.i64 r_y
theorem rendslices_Index_int_int_ok : ∀ (a : Aslices_Index_int_int) (y : Yslices_Index_int_int), (rendslices_Index_int_int a y).closed1 = true := by
  rintro ⟨a0, a1⟩ y <;> first | rfl | exact Empty.elim y
theorem fnslices_Index_int_int_ok (a : Aslices_Index_int_int) : fnE Try.tab envslices_Index_int_int noHint 0 70 85 Try.f85.ntmps Try.f85.results.toList annslices_Index_int_int bslices_Index_int_int (argsslices_Index_int_int a) [] (fun v _ => some (v, [])) = fnslices_Index_int_int a (fun y => some (rendslices_Index_int_int a y, [])) := by kernel_rfl
def vFslices_Index_int_int (a : Aslices_Index_int_int) (K : AV → Ans) : Ans := bindO (fnDslices_Index_int_int a) fun y => K (rendslices_Index_int_int a y)
def Fslices_Index_int_int : List AV → (AV → Ans) → Ans := fun l K => bindO (decAslices_Index_int_int l) fun a => vFslices_Index_int_int a K
theorem Fslices_Index_int_int_ok : PureOk Try.prog 85 Fslices_Index_int_int := pure_mkD (hint := noHint) (d := 0) (n := 70) mixed tabOk envslices_Index_int_intOk Try.func85 (bodySome (by kernel_rfl)) (by decide +kernel) annslices_Index_int_int_ok decAslices_Index_int_int_ok fnslices_Index_int_int_ok fnslices_Index_int_int_nat rendslices_Index_int_int_ok
--@ slices_Contains_int_int
noncomputable def envslices_Contains_int_int : Env := [(85, .pure Fslices_Index_int_int)]
theorem envslices_Contains_int_intOk : EnvOk Try.prog envslices_Contains_int_int := EnvOk.cons Fslices_Index_int_int_ok (EnvOk.nil)
noncomputable def bslices_Contains_int_int : Code := Try.f66.body.getD .skip
noncomputable def annslices_Contains_int_int : Ann := .none
theorem annslices_Contains_int_int_ok : AnnOk Try.prog 9 bslices_Contains_int_int annslices_Contains_int_int := (annOk_none _ _ _)
abbrev Aslices_Contains_int_int := (List Int) × (Int)
abbrev Yslices_Contains_int_int := (Bool)
def fnslices_Contains_int_int {β : Type} : Aslices_Contains_int_int → (Yslices_Contains_int_int → Option β) → Option β := fun (a0, a1) exit => (bindO (fnDslices_Index_int_int (a0, a1)) fun r => (exit (decide (r ≥ (0 : Int)))))
def fnDslices_Contains_int_int (a : Aslices_Contains_int_int) : Option Yslices_Contains_int_int := fnslices_Contains_int_int a some
theorem fnslices_Contains_int_int_nat (a : Aslices_Contains_int_int) (k : Yslices_Contains_int_int → Ans) : fnslices_Contains_int_int a k = bindO (fnDslices_Contains_int_int a) k := by
  obtain ⟨a0, a1⟩ := a
  simp only [fnDslices_Contains_int_int, fnslices_Contains_int_int, bindO_cond, bindO_assoc, bindO_none, bindO_pure, bindO_elim, bindO_unP]
def argsslices_Contains_int_int : Aslices_Contains_int_int → List AV := fun (a0, a1) => [AV.ro (Ty.int IntKind.i64) a0, AV.int IntKind.i64 a1]
def decAslices_Contains_int_int (l : List AV) : Option Aslices_Contains_int_int := match l with
  | [AV.ro (Ty.int IntKind.i64) a0, AV.int IntKind.i64 a1] => some (a0, a1)
  | _ => none
theorem decAslices_Contains_int_int_ok (l : List AV) (a : Aslices_Contains_int_int) (h : decAslices_Contains_int_int l = some a) : l = argsslices_Contains_int_int a := by
  unfold decAslices_Contains_int_int at h
  split at h
  · cases h; rfl
  · cases h
def rendslices_Contains_int_int : Aslices_Contains_int_int → Yslices_Contains_int_int → AV := fun (a0, a1) => fun r_y => AV.bool r_y
theorem rendslices_Contains_int_int_ok : ∀ (a : Aslices_Contains_int_int) (y : Yslices_Contains_int_int), (rendslices_Contains_int_int a y).closed1 = true := by
  rintro ⟨a0, a1⟩ y <;> first | rfl | exact Empty.elim y
theorem fnslices_Contains_int_int_ok (a : Aslices_Contains_int_int) : fnE Try.tab envslices_Contains_int_int noHint 0 70 66 Try.f66.ntmps Try.f66.results.toList annslices_Contains_int_int bslices_Contains_int_int (argsslices_Contains_int_int a) [] (fun v _ => some (v, [])) = fnslices_Contains_int_int a (fun y => some (rendslices_Contains_int_int a y, [])) := by kernel_rfl
def vFslices_Contains_int_int (a : Aslices_Contains_int_int) (K : AV → Ans) : Ans := bindO (fnDslices_Contains_int_int a) fun y => K (rendslices_Contains_int_int a y)
def Fslices_Contains_int_int : List AV → (AV → Ans) → Ans := fun l K => bindO (decAslices_Contains_int_int l) fun a => vFslices_Contains_int_int a K
theorem Fslices_Contains_int_int_ok : PureOk Try.prog 66 Fslices_Contains_int_int := pure_mkD (hint := noHint) (d := 0) (n := 70) mixed tabOk envslices_Contains_int_intOk Try.func66 (bodySome (by kernel_rfl)) (by decide +kernel) annslices_Contains_int_int_ok decAslices_Contains_int_int_ok fnslices_Contains_int_int_ok fnslices_Contains_int_int_nat rendslices_Contains_int_int_ok
--@ disk_Disk_call
noncomputable def envdisk_Disk_call : Env := [(66, .pure Fslices_Contains_int_int)]
theorem envdisk_Disk_callOk : EnvOk Try.prog envdisk_Disk_call := EnvOk.cons Fslices_Contains_int_int_ok (EnvOk.nil)
noncomputable def bdisk_Disk_call : Code := Try.f59.body.getD .skip
noncomputable def anndisk_Disk_call : Ann := .none
theorem anndisk_Disk_call_ok : AnnOk Try.prog 41 bdisk_Disk_call anndisk_Disk_call := (annOk_none _ _ _)
abbrev Adisk_Disk_call := (Int) × (Int) × (Bool) × (List (List UInt8)) × (List (Int × List UInt8)) × (List (Int × List UInt8)) × (List Int)
abbrev Ydisk_Disk_call := (Int) × (Bool) × (Int) × (Bool)
def fndisk_Disk_call {β : Type} : Adisk_Disk_call → (Ydisk_Disk_call → Option β) → Option β := fun (o0_3, o0_5, o0_6, o1, o2, o3, o4) exit => (bif o0_6 then (exit ((31 : Int), false, IntKind.wrap IntKind.i64 (o0_3 + (1 : Int)), o0_6)) else (bif IntKind.wrap IntKind.i64 (o0_3 + (1 : Int)) == o0_5 then (exit ((31 : Int), true, IntKind.wrap IntKind.i64 (o0_3 + (1 : Int)), true)) else (bindO (fnDslices_Contains_int_int (o4, IntKind.wrap IntKind.i64 (o0_3 + (1 : Int)))) fun r => (bif r then (exit ((30 : Int), false, IntKind.wrap IntKind.i64 (o0_3 + (1 : Int)), o0_6)) else (exit ((0 : Int), false, IntKind.wrap IntKind.i64 (o0_3 + (1 : Int)), o0_6))))))
def fnDdisk_Disk_call (a : Adisk_Disk_call) : Option Ydisk_Disk_call := fndisk_Disk_call a some
theorem fndisk_Disk_call_nat (a : Adisk_Disk_call) (k : Ydisk_Disk_call → Ans) : fndisk_Disk_call a k = bindO (fnDdisk_Disk_call a) k := by
  obtain ⟨o0_3, o0_5, o0_6, o1, o2, o3, o4⟩ := a
  simp only [fnDdisk_Disk_call, fndisk_Disk_call, bindO_cond, bindO_assoc, bindO_none, bindO_pure, bindO_elim, bindO_unP]
def argsdisk_Disk_call : Adisk_Disk_call → List AV × List AE.Obj := fun (o0_3, o0_5, o0_6, o1, o2, o3, o4) => ([AV.ptr 0 0], [AE.Obj.cells [AV.own 1, AV.map 2, AV.own 3, AV.int IntKind.i64 o0_3, AV.own 4, AV.int IntKind.i64 o0_5, AV.bool o0_6], Obj.arr Ty.str o1, Obj.mp IntKind.i64 Ty.str o2, Obj.arr (Ty.st (Ty.pair (Ty.int IntKind.i64) Ty.str)) o3, Obj.arr (Ty.int IntKind.i64) o4])
def decAdisk_Disk_call (l : List AV) (H : List AE.Obj) : Option Adisk_Disk_call := match l, H with
  | [AV.ptr 0 0], [AE.Obj.cells [AV.own 1, AV.map 2, AV.own 3, AV.int IntKind.i64 o0_3, AV.own 4, AV.int IntKind.i64 o0_5, AV.bool o0_6], Obj.arr Ty.str o1, Obj.mp IntKind.i64 Ty.str o2, Obj.arr (Ty.st (Ty.pair (Ty.int IntKind.i64) Ty.str)) o3, Obj.arr (Ty.int IntKind.i64) o4] => some (o0_3, o0_5, o0_6, o1, o2, o3, o4)
  | _, _ => none
theorem decAdisk_Disk_call_ok (l : List AV) (H : List AE.Obj) (a : Adisk_Disk_call) (h : decAdisk_Disk_call l H = some a) : (l, H) = argsdisk_Disk_call a := by
  unfold decAdisk_Disk_call at h
  split at h
  · cases h; rfl
  · cases h
def outdisk_Disk_call : Adisk_Disk_call → (AV → List AE.Obj → Ans) → Ydisk_Disk_call → Ans := fun (o0_3, o0_5, o0_6, o1, o2, o3, o4) K => unP fun r_0_y => unP fun r_1_y => unP fun o0_3_y o0_6_y => K (AV.tup [AV.int IntKind.i64 r_0_y, AV.bool r_1_y]) [AE.Obj.cells [AV.own 1, AV.map 2, AV.own 3, AV.int IntKind.i64 o0_3_y, AV.own 4, AV.int IntKind.i64 o0_5, AV.bool o0_6_y], Obj.arr Ty.str o1, Obj.mp IntKind.i64 Ty.str o2, Obj.arr (Ty.st (Ty.pair (Ty.int IntKind.i64) Ty.str)) o3, Obj.arr (Ty.int IntKind.i64) o4]
theorem fndisk_Disk_call_ok (a : Adisk_Disk_call) (K : AV → List AE.Obj → Ans) : fnE Try.tab envdisk_Disk_call noHint 0 70 59 Try.f59.ntmps Try.f59.results.toList anndisk_Disk_call bdisk_Disk_call (argsdisk_Disk_call a).1 (argsdisk_Disk_call a).2 K = fndisk_Disk_call a (outdisk_Disk_call a K) := by kernel_rfl
def vFdisk_Disk_call (a : Adisk_Disk_call) (K : AV → List AE.Obj → Ans) : Ans := bindO (fnDdisk_Disk_call a) fun y => outdisk_Disk_call a K y
def Fdisk_Disk_call : List AV → List AE.Obj → (AV → List AE.Obj → Ans) → Ans := fun l H K => bindO (decAdisk_Disk_call l H) fun a => vFdisk_Disk_call a K
theorem Fdisk_Disk_call_ok : FuncOk Try.prog 59 Fdisk_Disk_call := func_mkD (hint := noHint) (d := 0) (n := 70) mixed tabOk envdisk_Disk_callOk Try.func59 (bodySome (by kernel_rfl)) (by decide +kernel) anndisk_Disk_call_ok decAdisk_Disk_call_ok fndisk_Disk_call_ok fndisk_Disk_call_nat
--@ disk_Disk_there
noncomputable def envdisk_Disk_there : Env := [(23, .func Fdisk_Disk_Sectors)]
theorem envdisk_Disk_thereOk : EnvOk Try.prog envdisk_Disk_there := EnvOk.cons Fdisk_Disk_Sectors_ok (EnvOk.nil)
noncomputable def bdisk_Disk_there : Code := Try.f60.body.getD .skip
noncomputable def Ldisk_Disk_there_n0 : Code := codeAt [1, 0] bdisk_Disk_there
noncomputable def annLdisk_Disk_there_n0 : Ann := .none
theorem annLdisk_Disk_there_n0_ok : AnnOk Try.prog 13 Ldisk_Disk_there_n0 annLdisk_Disk_there_n0 := (annOk_none _ _ _)
abbrev Idisk_Disk_there_n0 := (Int) × (Int) × (Int) × (Bool) × (List (List UInt8)) × (List (Int × List UInt8)) × (List (Int × List UInt8)) × (List Int)
abbrev Ydisk_Disk_there_n0 := (Bool)
def Sdisk_Disk_there_n0 : Idisk_Disk_there_n0 → St := fun (t1, o0_3, o0_5, o0_6, o1, o2, o3, o4) => { env := [(0, AV.ptr 0 0), (1, AV.int IntKind.i64 t1)], stk := [[(0, AV.ptr 0 0)]], H := [AE.Obj.cells [AV.own 1, AV.map 2, AV.own 3, AV.int IntKind.i64 o0_3, AV.own 4, AV.int IntKind.i64 o0_5, AV.bool o0_6], Obj.arr Ty.str o1, Obj.mp IntKind.i64 Ty.str o2, Obj.arr (Ty.st (Ty.pair (Ty.int IntKind.i64) Ty.str)) o3, Obj.arr (Ty.int IntKind.i64) o4], blk := 245760 }
def decdisk_Disk_there_n0 (s : St) : Option Idisk_Disk_there_n0 := match s with
  | { env := [(0, AV.ptr 0 0), (1, AV.int IntKind.i64 t1)], stk := [[(0, AV.ptr 0 0)]], H := [AE.Obj.cells [AV.own 1, AV.map 2, AV.own 3, AV.int IntKind.i64 o0_3, AV.own 4, AV.int IntKind.i64 o0_5, AV.bool o0_6], Obj.arr Ty.str o1, Obj.mp IntKind.i64 Ty.str o2, Obj.arr (Ty.st (Ty.pair (Ty.int IntKind.i64) Ty.str)) o3, Obj.arr (Ty.int IntKind.i64) o4], blk := 245760 } => some (t1, o0_3, o0_5, o0_6, o1, o2, o3, o4)
  | _ => none
theorem decdisk_Disk_there_n0_ok (s : St) (x : Idisk_Disk_there_n0) (h : decdisk_Disk_there_n0 s = some x) : s = Sdisk_Disk_there_n0 x := by
  unfold decdisk_Disk_there_n0 at h
  split at h
  · cases h; rfl
  · cases h
def outdisk_Disk_there_n0 : Idisk_Disk_there_n0 → (Ex → St → Ans) → Ydisk_Disk_there_n0 → Ans := fun (t1, o0_3, o0_5, o0_6, o1, o2, o3, o4) K => fun t4_y => K (Ex.norm) { env := [(4, AV.bool t4_y)], stk := [[(0, AV.ptr 0 0)]], H := [AE.Obj.cells [AV.own 1, AV.map 2, AV.own 3, AV.int IntKind.i64 o0_3, AV.own 4, AV.int IntKind.i64 o0_5, AV.bool o0_6], Obj.arr Ty.str o1, Obj.mp IntKind.i64 Ty.str o2, Obj.arr (Ty.st (Ty.pair (Ty.int IntKind.i64) Ty.str)) o3, Obj.arr (Ty.int IntKind.i64) o4], blk := 245760 }
def nodedisk_Disk_there_n0 {β : Type} : Idisk_Disk_there_n0 → (Ydisk_Disk_there_n0 → Option β) → Option β := fun (t1, o0_3, o0_5, o0_6, o1, o2, o3, o4) exit => (bif decide (t1 ≥ (0 : Int)) then (bindO (fnDdisk_Disk_Sectors (o0_3, o0_5, o0_6, o1, o2, o3, o4)) fun r => (exit (decide (t1 < r)))) else (exit (false)))
def nodeDdisk_Disk_there_n0 (i : Idisk_Disk_there_n0) : Option Ydisk_Disk_there_n0 := nodedisk_Disk_there_n0 i some
theorem nodedisk_Disk_there_n0_nat (i : Idisk_Disk_there_n0) (k : Ydisk_Disk_there_n0 → Ans) : nodedisk_Disk_there_n0 i k = bindO (nodeDdisk_Disk_there_n0 i) k := by
  obtain ⟨t1, o0_3, o0_5, o0_6, o1, o2, o3, o4⟩ := i
  simp only [nodeDdisk_Disk_there_n0, nodedisk_Disk_there_n0, bindO_cond, bindO_assoc, bindO_none, bindO_pure, bindO_elim, bindO_unP]
theorem nodedisk_Disk_there_n0_ok (i : Idisk_Disk_there_n0) (K : Ex → St → Ans) : codeI Try.tab envdisk_Disk_there noHint (codeD Try.tab envdisk_Disk_there noHint 0 64) 70 13 annLdisk_Disk_there_n0 Ldisk_Disk_there_n0 (weakP 5 (exk [4] [4] []) K) (Sdisk_Disk_there_n0 i) = nodedisk_Disk_there_n0 i (outdisk_Disk_there_n0 i K) := by kernel_rfl
theorem GNdisk_Disk_there_n0_ok : CSum Try.prog 13 Ldisk_Disk_there_n0 (sumN decdisk_Disk_there_n0 nodeDdisk_Disk_there_n0 outdisk_Disk_there_n0) := csum_node mixed tabOk envdisk_Disk_thereOk 5 (exk [4] [4] []) annLdisk_Disk_there_n0_ok decdisk_Disk_there_n0_ok nodedisk_Disk_there_n0_ok nodedisk_Disk_there_n0_nat
noncomputable def Gdisk_Disk_there_n0 : (Ex → St → Ans) → St → Ans := (sumN decdisk_Disk_there_n0 nodeDdisk_Disk_there_n0 outdisk_Disk_there_n0)
theorem Gdisk_Disk_there_n0_ok : CSum Try.prog 13 Ldisk_Disk_there_n0 Gdisk_Disk_there_n0 := GNdisk_Disk_there_n0_ok
noncomputable def anndisk_Disk_there : Ann := (.seq .none (.seq (.cut 5 [0, 1] Gdisk_Disk_there_n0) .none))
theorem anndisk_Disk_there_ok : AnnOk Try.prog 13 bdisk_Disk_there anndisk_Disk_there := ⟨(annOk_none _ _ _), ⟨Gdisk_Disk_there_n0_ok, (annOk_none _ _ _)⟩⟩
abbrev Adisk_Disk_there := (Int) × (Int) × (Int) × (Bool) × (List (List UInt8)) × (List (Int × List UInt8)) × (List (Int × List UInt8)) × (List Int)
abbrev Ydisk_Disk_there := (Bool)
def fndisk_Disk_there {β : Type} : Adisk_Disk_there → (Ydisk_Disk_there → Option β) → Option β := fun (a1, o0_3, o0_5, o0_6, o1, o2, o3, o4) exit => (bindO (nodeDdisk_Disk_there_n0 (a1, o0_3, o0_5, o0_6, o1, o2, o3, o4)) fun t4 => (exit (t4)))
def fnDdisk_Disk_there (a : Adisk_Disk_there) : Option Ydisk_Disk_there := fndisk_Disk_there a some
theorem fndisk_Disk_there_nat (a : Adisk_Disk_there) (k : Ydisk_Disk_there → Ans) : fndisk_Disk_there a k = bindO (fnDdisk_Disk_there a) k := by
  obtain ⟨a1, o0_3, o0_5, o0_6, o1, o2, o3, o4⟩ := a
  simp only [fnDdisk_Disk_there, fndisk_Disk_there, bindO_cond, bindO_assoc, bindO_none, bindO_pure, bindO_elim, bindO_unP]
def argsdisk_Disk_there : Adisk_Disk_there → List AV × List AE.Obj := fun (a1, o0_3, o0_5, o0_6, o1, o2, o3, o4) => ([AV.ptr 0 0, AV.int IntKind.i64 a1], [AE.Obj.cells [AV.own 1, AV.map 2, AV.own 3, AV.int IntKind.i64 o0_3, AV.own 4, AV.int IntKind.i64 o0_5, AV.bool o0_6], Obj.arr Ty.str o1, Obj.mp IntKind.i64 Ty.str o2, Obj.arr (Ty.st (Ty.pair (Ty.int IntKind.i64) Ty.str)) o3, Obj.arr (Ty.int IntKind.i64) o4])
def decAdisk_Disk_there (l : List AV) (H : List AE.Obj) : Option Adisk_Disk_there := match l, H with
  | [AV.ptr 0 0, AV.int IntKind.i64 a1], [AE.Obj.cells [AV.own 1, AV.map 2, AV.own 3, AV.int IntKind.i64 o0_3, AV.own 4, AV.int IntKind.i64 o0_5, AV.bool o0_6], Obj.arr Ty.str o1, Obj.mp IntKind.i64 Ty.str o2, Obj.arr (Ty.st (Ty.pair (Ty.int IntKind.i64) Ty.str)) o3, Obj.arr (Ty.int IntKind.i64) o4] => some (a1, o0_3, o0_5, o0_6, o1, o2, o3, o4)
  | _, _ => none
theorem decAdisk_Disk_there_ok (l : List AV) (H : List AE.Obj) (a : Adisk_Disk_there) (h : decAdisk_Disk_there l H = some a) : (l, H) = argsdisk_Disk_there a := by
  unfold decAdisk_Disk_there at h
  split at h
  · cases h; rfl
  · cases h
def outdisk_Disk_there : Adisk_Disk_there → (AV → List AE.Obj → Ans) → Ydisk_Disk_there → Ans := fun (a1, o0_3, o0_5, o0_6, o1, o2, o3, o4) K => fun r_y => K (AV.bool r_y) [AE.Obj.cells [AV.own 1, AV.map 2, AV.own 3, AV.int IntKind.i64 o0_3, AV.own 4, AV.int IntKind.i64 o0_5, AV.bool o0_6], Obj.arr Ty.str o1, Obj.mp IntKind.i64 Ty.str o2, Obj.arr (Ty.st (Ty.pair (Ty.int IntKind.i64) Ty.str)) o3, Obj.arr (Ty.int IntKind.i64) o4]
theorem fndisk_Disk_there_ok (a : Adisk_Disk_there) (K : AV → List AE.Obj → Ans) : fnE Try.tab envdisk_Disk_there noHint 0 70 60 Try.f60.ntmps Try.f60.results.toList anndisk_Disk_there bdisk_Disk_there (argsdisk_Disk_there a).1 (argsdisk_Disk_there a).2 K = fndisk_Disk_there a (outdisk_Disk_there a K) := by kernel_rfl
def vFdisk_Disk_there (a : Adisk_Disk_there) (K : AV → List AE.Obj → Ans) : Ans := bindO (fnDdisk_Disk_there a) fun y => outdisk_Disk_there a K y
def Fdisk_Disk_there : List AV → List AE.Obj → (AV → List AE.Obj → Ans) → Ans := fun l H K => bindO (decAdisk_Disk_there l H) fun a => vFdisk_Disk_there a K
theorem Fdisk_Disk_there_ok : FuncOk Try.prog 60 Fdisk_Disk_there := func_mkD (hint := noHint) (d := 0) (n := 70) mixed tabOk envdisk_Disk_thereOk Try.func60 (bodySome (by kernel_rfl)) (by decide +kernel) anndisk_Disk_there_ok decAdisk_Disk_there_ok fndisk_Disk_there_ok fndisk_Disk_there_nat
--@ disk_Disk_Write
noncomputable def envdisk_Disk_Write : Env := [(59, .func Fdisk_Disk_call), (60, .func Fdisk_Disk_there)]
theorem envdisk_Disk_WriteOk : EnvOk Try.prog envdisk_Disk_Write := EnvOk.cons Fdisk_Disk_call_ok (EnvOk.cons Fdisk_Disk_there_ok (EnvOk.nil))
noncomputable def bdisk_Disk_Write : Code := Try.f13.body.getD .skip
noncomputable def Ldisk_Disk_Write_n3 : Code := codeAt [1, 1, 1, 1, 0, 1] bdisk_Disk_Write
noncomputable def annLdisk_Disk_Write_n3 : Ann := .none
theorem annLdisk_Disk_Write_n3_ok : AnnOk Try.prog 64 Ldisk_Disk_Write_n3 annLdisk_Disk_Write_n3 := (annOk_none _ _ _)
abbrev Idisk_Disk_Write_n3 := (Int) × (List UInt8) × (Int) × (Int) × (Int) × (Bool) × (List (List UInt8)) × (List (Int × List UInt8)) × (List (Int × List UInt8)) × (List Int)
abbrev Ydisk_Disk_Write_n3 := Unit
def Sdisk_Disk_Write_n3 : Idisk_Disk_Write_n3 → St := fun (t1, t2, t7, o0_3, o0_5, o0_6, o1, o2, o3, o4) => { env := [(0, AV.ptr 0 0), (1, AV.int IntKind.i64 t1), (2, AV.str t2), (7, AV.int IntKind.i64 t7), (40, AV.bool (false))], stk := [[(0, AV.ptr 0 0)]], H := [AE.Obj.cells [AV.own 1, AV.map 2, AV.own 3, AV.int IntKind.i64 o0_3, AV.own 4, AV.int IntKind.i64 o0_5, AV.bool o0_6], Obj.arr Ty.str o1, Obj.mp IntKind.i64 Ty.str o2, Obj.arr (Ty.st (Ty.pair (Ty.int IntKind.i64) Ty.str)) o3, Obj.arr (Ty.int IntKind.i64) o4], blk := 53248 }
def decdisk_Disk_Write_n3 (s : St) : Option Idisk_Disk_Write_n3 := match s with
  | { env := [(0, AV.ptr 0 0), (1, AV.int IntKind.i64 t1), (2, AV.str t2), (7, AV.int IntKind.i64 t7), (40, AV.bool r3)], stk := [[(0, AV.ptr 0 0)]], H := [AE.Obj.cells [AV.own 1, AV.map 2, AV.own 3, AV.int IntKind.i64 o0_3, AV.own 4, AV.int IntKind.i64 o0_5, AV.bool o0_6], Obj.arr Ty.str o1, Obj.mp IntKind.i64 Ty.str o2, Obj.arr (Ty.st (Ty.pair (Ty.int IntKind.i64) Ty.str)) o3, Obj.arr (Ty.int IntKind.i64) o4], blk := 53248 } => cond (decide (r3 = false)) (some (t1, t2, t7, o0_3, o0_5, o0_6, o1, o2, o3, o4)) none
  | _ => none
theorem decdisk_Disk_Write_n3_ok (s : St) (x : Idisk_Disk_Write_n3) (h : decdisk_Disk_Write_n3 s = some x) : s = Sdisk_Disk_Write_n3 x := by
  unfold decdisk_Disk_Write_n3 at h
  split at h
  · replace h := cond_noneO h; obtain ⟨hg, h⟩ := h; simp only [Bool.and_eq_true, decide_eq_true_eq] at hg; simp only [hg]; cases h; rfl
  · cases h
def outdisk_Disk_Write_n3 : Idisk_Disk_Write_n3 → (Ex → St → Ans) → Ydisk_Disk_Write_n3 → Ans := fun (t1, t2, t7, o0_3, o0_5, o0_6, o1, o2, o3, o4) K => fun _ => K (Ex.norm) { env := [(0, AV.ptr 0 0), (1, AV.int IntKind.i64 t1), (2, AV.str t2), (7, AV.int IntKind.i64 t7)], stk := [[(0, AV.ptr 0 0)]], H := [AE.Obj.cells [AV.own 1, AV.map 2, AV.own 3, AV.int IntKind.i64 o0_3, AV.own 4, AV.int IntKind.i64 o0_5, AV.bool o0_6], Obj.arr Ty.str o1, Obj.mp IntKind.i64 Ty.str o2, Obj.arr (Ty.st (Ty.pair (Ty.int IntKind.i64) Ty.str)) o3, Obj.arr (Ty.int IntKind.i64) o4], blk := 53248 }
def nodedisk_Disk_Write_n3 {β : Type} : Idisk_Disk_Write_n3 → (Ydisk_Disk_Write_n3 → Option β) → Option β := fun (t1, t2, t7, o0_3, o0_5, o0_6, o1, o2, o3, o4) exit => (exit ())
def nodeDdisk_Disk_Write_n3 (i : Idisk_Disk_Write_n3) : Option Ydisk_Disk_Write_n3 := nodedisk_Disk_Write_n3 i some
theorem nodedisk_Disk_Write_n3_nat (i : Idisk_Disk_Write_n3) (k : Ydisk_Disk_Write_n3 → Ans) : nodedisk_Disk_Write_n3 i k = bindO (nodeDdisk_Disk_Write_n3 i) k := by
  obtain ⟨t1, t2, t7, o0_3, o0_5, o0_6, o1, o2, o3, o4⟩ := i
  simp only [nodeDdisk_Disk_Write_n3, nodedisk_Disk_Write_n3, bindO_cond, bindO_assoc, bindO_none, bindO_pure, bindO_elim, bindO_unP]
theorem nodedisk_Disk_Write_n3_ok (i : Idisk_Disk_Write_n3) (K : Ex → St → Ans) : codeI Try.tab envdisk_Disk_Write noHint (codeD Try.tab envdisk_Disk_Write noHint 0 64) 70 64 annLdisk_Disk_Write_n3 Ldisk_Disk_Write_n3 (weakP 5 (exk [0, 1, 2, 7] [6] []) K) (Sdisk_Disk_Write_n3 i) = nodedisk_Disk_Write_n3 i (outdisk_Disk_Write_n3 i K) := by kernel_rfl
theorem GNdisk_Disk_Write_n3_ok : CSum Try.prog 64 Ldisk_Disk_Write_n3 (sumN decdisk_Disk_Write_n3 nodeDdisk_Disk_Write_n3 outdisk_Disk_Write_n3) := csum_node mixed tabOk envdisk_Disk_WriteOk 5 (exk [0, 1, 2, 7] [6] []) annLdisk_Disk_Write_n3_ok decdisk_Disk_Write_n3_ok nodedisk_Disk_Write_n3_ok nodedisk_Disk_Write_n3_nat
noncomputable def Gdisk_Disk_Write_n3 : (Ex → St → Ans) → St → Ans := (sumN decdisk_Disk_Write_n3 nodeDdisk_Disk_Write_n3 outdisk_Disk_Write_n3)
theorem Gdisk_Disk_Write_n3_ok : CSum Try.prog 64 Ldisk_Disk_Write_n3 Gdisk_Disk_Write_n3 := GNdisk_Disk_Write_n3_ok
noncomputable def Ldisk_Disk_Write_n2 : Code := codeAt [1, 1, 1, 0, 0, 1, 1, 1, 0, 0, 1] bdisk_Disk_Write
noncomputable def annLdisk_Disk_Write_n2 : Ann := .none
theorem annLdisk_Disk_Write_n2_ok : AnnOk Try.prog 64 Ldisk_Disk_Write_n2 annLdisk_Disk_Write_n2 := (annOk_none _ _ _)
abbrev Idisk_Disk_Write_n2 := (Int) × (Bool) × (Int) × (Int) × (Bool) × (List (List UInt8)) × (List (Int × List UInt8)) × (List (Int × List UInt8)) × (List Int)
abbrev Ydisk_Disk_Write_n2 := (Int)
def Sdisk_Disk_Write_n2 : Idisk_Disk_Write_n2 → St := fun (t7, t34, o0_3, o0_5, o0_6, o1, o2, o3, o4) => { env := [(7, AV.int IntKind.i64 t7), (34, AV.bool t34)], stk := [[(0, AV.ptr 0 0)]], H := [AE.Obj.cells [AV.own 1, AV.map 2, AV.own 3, AV.int IntKind.i64 o0_3, AV.own 4, AV.int IntKind.i64 o0_5, AV.bool o0_6], Obj.arr Ty.str o1, Obj.mp IntKind.i64 Ty.str o2, Obj.arr (Ty.st (Ty.pair (Ty.int IntKind.i64) Ty.str)) o3, Obj.arr (Ty.int IntKind.i64) o4], blk := 53248 }
def decdisk_Disk_Write_n2 (s : St) : Option Idisk_Disk_Write_n2 := match s with
  | { env := [(7, AV.int IntKind.i64 t7), (34, AV.bool t34)], stk := [[(0, AV.ptr 0 0)]], H := [AE.Obj.cells [AV.own 1, AV.map 2, AV.own 3, AV.int IntKind.i64 o0_3, AV.own 4, AV.int IntKind.i64 o0_5, AV.bool o0_6], Obj.arr Ty.str o1, Obj.mp IntKind.i64 Ty.str o2, Obj.arr (Ty.st (Ty.pair (Ty.int IntKind.i64) Ty.str)) o3, Obj.arr (Ty.int IntKind.i64) o4], blk := 53248 } => some (t7, t34, o0_3, o0_5, o0_6, o1, o2, o3, o4)
  | _ => none
theorem decdisk_Disk_Write_n2_ok (s : St) (x : Idisk_Disk_Write_n2) (h : decdisk_Disk_Write_n2 s = some x) : s = Sdisk_Disk_Write_n2 x := by
  unfold decdisk_Disk_Write_n2 at h
  split at h
  · cases h; rfl
  · cases h
def outdisk_Disk_Write_n2 : Idisk_Disk_Write_n2 → (Ex → St → Ans) → Ydisk_Disk_Write_n2 → Ans := fun (t7, t34, o0_3, o0_5, o0_6, o1, o2, o3, o4) K => fun t7_y => K (Ex.norm) { env := [(7, AV.int IntKind.i64 t7_y)], stk := [[(0, AV.ptr 0 0)]], H := [AE.Obj.cells [AV.own 1, AV.map 2, AV.own 3, AV.int IntKind.i64 o0_3, AV.own 4, AV.int IntKind.i64 o0_5, AV.bool o0_6], Obj.arr Ty.str o1, Obj.mp IntKind.i64 Ty.str o2, Obj.arr (Ty.st (Ty.pair (Ty.int IntKind.i64) Ty.str)) o3, Obj.arr (Ty.int IntKind.i64) o4], blk := 53248 }
def nodedisk_Disk_Write_n2 {β : Type} : Idisk_Disk_Write_n2 → (Ydisk_Disk_Write_n2 → Option β) → Option β := fun (t7, t34, o0_3, o0_5, o0_6, o1, o2, o3, o4) exit => (bif t34 then (exit ((12 : Int))) else (exit (t7)))
def nodeDdisk_Disk_Write_n2 (i : Idisk_Disk_Write_n2) : Option Ydisk_Disk_Write_n2 := nodedisk_Disk_Write_n2 i some
theorem nodedisk_Disk_Write_n2_nat (i : Idisk_Disk_Write_n2) (k : Ydisk_Disk_Write_n2 → Ans) : nodedisk_Disk_Write_n2 i k = bindO (nodeDdisk_Disk_Write_n2 i) k := by
  obtain ⟨t7, t34, o0_3, o0_5, o0_6, o1, o2, o3, o4⟩ := i
  simp only [nodeDdisk_Disk_Write_n2, nodedisk_Disk_Write_n2, bindO_cond, bindO_assoc, bindO_none, bindO_pure, bindO_elim, bindO_unP]
theorem nodedisk_Disk_Write_n2_ok (i : Idisk_Disk_Write_n2) (K : Ex → St → Ans) : codeI Try.tab envdisk_Disk_Write noHint (codeD Try.tab envdisk_Disk_Write noHint 0 64) 70 64 annLdisk_Disk_Write_n2 Ldisk_Disk_Write_n2 (weakP 5 (exk [7] [6] []) K) (Sdisk_Disk_Write_n2 i) = nodedisk_Disk_Write_n2 i (outdisk_Disk_Write_n2 i K) := by kernel_rfl
theorem GNdisk_Disk_Write_n2_ok : CSum Try.prog 64 Ldisk_Disk_Write_n2 (sumN decdisk_Disk_Write_n2 nodeDdisk_Disk_Write_n2 outdisk_Disk_Write_n2) := csum_node mixed tabOk envdisk_Disk_WriteOk 5 (exk [7] [6] []) annLdisk_Disk_Write_n2_ok decdisk_Disk_Write_n2_ok nodedisk_Disk_Write_n2_ok nodedisk_Disk_Write_n2_nat
noncomputable def Gdisk_Disk_Write_n2 : (Ex → St → Ans) → St → Ans := (sumN decdisk_Disk_Write_n2 nodeDdisk_Disk_Write_n2 outdisk_Disk_Write_n2)
theorem Gdisk_Disk_Write_n2_ok : CSum Try.prog 64 Ldisk_Disk_Write_n2 Gdisk_Disk_Write_n2 := GNdisk_Disk_Write_n2_ok
noncomputable def Ldisk_Disk_Write_n1 : Code := codeAt [1, 1, 1, 0, 0, 1, 0, 0, 1] bdisk_Disk_Write
noncomputable def annLdisk_Disk_Write_n1 : Ann := .none
theorem annLdisk_Disk_Write_n1_ok : AnnOk Try.prog 64 Ldisk_Disk_Write_n1 annLdisk_Disk_Write_n1 := (annOk_none _ _ _)
abbrev Idisk_Disk_Write_n1 := (Int) × (Bool) × (Int) × (Int) × (Bool) × (List (List UInt8)) × (List (Int × List UInt8)) × (List (Int × List UInt8)) × (List Int)
abbrev Ydisk_Disk_Write_n1 := (Int)
def Sdisk_Disk_Write_n1 : Idisk_Disk_Write_n1 → St := fun (t7, t27, o0_3, o0_5, o0_6, o1, o2, o3, o4) => { env := [(7, AV.int IntKind.i64 t7), (27, AV.bool t27)], stk := [[(0, AV.ptr 0 0)]], H := [AE.Obj.cells [AV.own 1, AV.map 2, AV.own 3, AV.int IntKind.i64 o0_3, AV.own 4, AV.int IntKind.i64 o0_5, AV.bool o0_6], Obj.arr Ty.str o1, Obj.mp IntKind.i64 Ty.str o2, Obj.arr (Ty.st (Ty.pair (Ty.int IntKind.i64) Ty.str)) o3, Obj.arr (Ty.int IntKind.i64) o4], blk := 53248 }
def decdisk_Disk_Write_n1 (s : St) : Option Idisk_Disk_Write_n1 := match s with
  | { env := [(7, AV.int IntKind.i64 t7), (27, AV.bool t27)], stk := [[(0, AV.ptr 0 0)]], H := [AE.Obj.cells [AV.own 1, AV.map 2, AV.own 3, AV.int IntKind.i64 o0_3, AV.own 4, AV.int IntKind.i64 o0_5, AV.bool o0_6], Obj.arr Ty.str o1, Obj.mp IntKind.i64 Ty.str o2, Obj.arr (Ty.st (Ty.pair (Ty.int IntKind.i64) Ty.str)) o3, Obj.arr (Ty.int IntKind.i64) o4], blk := 53248 } => some (t7, t27, o0_3, o0_5, o0_6, o1, o2, o3, o4)
  | _ => none
theorem decdisk_Disk_Write_n1_ok (s : St) (x : Idisk_Disk_Write_n1) (h : decdisk_Disk_Write_n1 s = some x) : s = Sdisk_Disk_Write_n1 x := by
  unfold decdisk_Disk_Write_n1 at h
  split at h
  · cases h; rfl
  · cases h
def outdisk_Disk_Write_n1 : Idisk_Disk_Write_n1 → (Ex → St → Ans) → Ydisk_Disk_Write_n1 → Ans := fun (t7, t27, o0_3, o0_5, o0_6, o1, o2, o3, o4) K => fun t7_y => K (Ex.norm) { env := [(7, AV.int IntKind.i64 t7_y)], stk := [[(0, AV.ptr 0 0)]], H := [AE.Obj.cells [AV.own 1, AV.map 2, AV.own 3, AV.int IntKind.i64 o0_3, AV.own 4, AV.int IntKind.i64 o0_5, AV.bool o0_6], Obj.arr Ty.str o1, Obj.mp IntKind.i64 Ty.str o2, Obj.arr (Ty.st (Ty.pair (Ty.int IntKind.i64) Ty.str)) o3, Obj.arr (Ty.int IntKind.i64) o4], blk := 53248 }
def nodedisk_Disk_Write_n1 {β : Type} : Idisk_Disk_Write_n1 → (Ydisk_Disk_Write_n1 → Option β) → Option β := fun (t7, t27, o0_3, o0_5, o0_6, o1, o2, o3, o4) exit => (bif t27 then (exit ((3 : Int))) else (exit (t7)))
def nodeDdisk_Disk_Write_n1 (i : Idisk_Disk_Write_n1) : Option Ydisk_Disk_Write_n1 := nodedisk_Disk_Write_n1 i some
theorem nodedisk_Disk_Write_n1_nat (i : Idisk_Disk_Write_n1) (k : Ydisk_Disk_Write_n1 → Ans) : nodedisk_Disk_Write_n1 i k = bindO (nodeDdisk_Disk_Write_n1 i) k := by
  obtain ⟨t7, t27, o0_3, o0_5, o0_6, o1, o2, o3, o4⟩ := i
  simp only [nodeDdisk_Disk_Write_n1, nodedisk_Disk_Write_n1, bindO_cond, bindO_assoc, bindO_none, bindO_pure, bindO_elim, bindO_unP]
theorem nodedisk_Disk_Write_n1_ok (i : Idisk_Disk_Write_n1) (K : Ex → St → Ans) : codeI Try.tab envdisk_Disk_Write noHint (codeD Try.tab envdisk_Disk_Write noHint 0 64) 70 64 annLdisk_Disk_Write_n1 Ldisk_Disk_Write_n1 (weakP 5 (exk [7] [6] []) K) (Sdisk_Disk_Write_n1 i) = nodedisk_Disk_Write_n1 i (outdisk_Disk_Write_n1 i K) := by kernel_rfl
theorem GNdisk_Disk_Write_n1_ok : CSum Try.prog 64 Ldisk_Disk_Write_n1 (sumN decdisk_Disk_Write_n1 nodeDdisk_Disk_Write_n1 outdisk_Disk_Write_n1) := csum_node mixed tabOk envdisk_Disk_WriteOk 5 (exk [7] [6] []) annLdisk_Disk_Write_n1_ok decdisk_Disk_Write_n1_ok nodedisk_Disk_Write_n1_ok nodedisk_Disk_Write_n1_nat
noncomputable def Gdisk_Disk_Write_n1 : (Ex → St → Ans) → St → Ans := (sumN decdisk_Disk_Write_n1 nodeDdisk_Disk_Write_n1 outdisk_Disk_Write_n1)
theorem Gdisk_Disk_Write_n1_ok : CSum Try.prog 64 Ldisk_Disk_Write_n1 Gdisk_Disk_Write_n1 := GNdisk_Disk_Write_n1_ok
noncomputable def Ldisk_Disk_Write_n0 : Code := codeAt [1, 1, 0, 0] bdisk_Disk_Write
noncomputable def annLdisk_Disk_Write_n0 : Ann := .none
theorem annLdisk_Disk_Write_n0_ok : AnnOk Try.prog 64 Ldisk_Disk_Write_n0 annLdisk_Disk_Write_n0 := (annOk_none _ _ _)
abbrev Idisk_Disk_Write_n0 := (Int) × (List UInt8) × (Int) × (Bool) × (Int) × (Int) × (Bool) × (List (List UInt8)) × (List (Int × List UInt8)) × (List (Int × List UInt8)) × (List Int)
abbrev Ydisk_Disk_Write_n0 := (Bool)
def Sdisk_Disk_Write_n0 : Idisk_Disk_Write_n0 → St := fun (t1, t2, t7, t8, o0_3, o0_5, o0_6, o1, o2, o3, o4) => { env := [(0, AV.ptr 0 0), (1, AV.int IntKind.i64 t1), (2, AV.str t2), (7, AV.int IntKind.i64 t7), (8, AV.bool t8)], stk := [[(0, AV.ptr 0 0)]], H := [AE.Obj.cells [AV.own 1, AV.map 2, AV.own 3, AV.int IntKind.i64 o0_3, AV.own 4, AV.int IntKind.i64 o0_5, AV.bool o0_6], Obj.arr Ty.str o1, Obj.mp IntKind.i64 Ty.str o2, Obj.arr (Ty.st (Ty.pair (Ty.int IntKind.i64) Ty.str)) o3, Obj.arr (Ty.int IntKind.i64) o4], blk := 53248 }
def decdisk_Disk_Write_n0 (s : St) : Option Idisk_Disk_Write_n0 := match s with
  | { env := [(0, AV.ptr 0 0), (1, AV.int IntKind.i64 t1), (2, AV.str t2), (7, AV.int IntKind.i64 t7), (8, AV.bool t8)], stk := [[(0, AV.ptr 0 0)]], H := [AE.Obj.cells [AV.own 1, AV.map 2, AV.own 3, AV.int IntKind.i64 o0_3, AV.own 4, AV.int IntKind.i64 o0_5, AV.bool o0_6], Obj.arr Ty.str o1, Obj.mp IntKind.i64 Ty.str o2, Obj.arr (Ty.st (Ty.pair (Ty.int IntKind.i64) Ty.str)) o3, Obj.arr (Ty.int IntKind.i64) o4], blk := 53248 } => some (t1, t2, t7, t8, o0_3, o0_5, o0_6, o1, o2, o3, o4)
  | _ => none
theorem decdisk_Disk_Write_n0_ok (s : St) (x : Idisk_Disk_Write_n0) (h : decdisk_Disk_Write_n0 s = some x) : s = Sdisk_Disk_Write_n0 x := by
  unfold decdisk_Disk_Write_n0 at h
  split at h
  · cases h; rfl
  · cases h
def outdisk_Disk_Write_n0 : Idisk_Disk_Write_n0 → (Ex → St → Ans) → Ydisk_Disk_Write_n0 → Ans := fun (t1, t2, t7, t8, o0_3, o0_5, o0_6, o1, o2, o3, o4) K => fun t19_y => K (Ex.norm) { env := [(0, AV.ptr 0 0), (1, AV.int IntKind.i64 t1), (2, AV.str t2), (7, AV.int IntKind.i64 t7), (8, AV.bool t8), (19, AV.bool t19_y)], stk := [[(0, AV.ptr 0 0)]], H := [AE.Obj.cells [AV.own 1, AV.map 2, AV.own 3, AV.int IntKind.i64 o0_3, AV.own 4, AV.int IntKind.i64 o0_5, AV.bool o0_6], Obj.arr Ty.str o1, Obj.mp IntKind.i64 Ty.str o2, Obj.arr (Ty.st (Ty.pair (Ty.int IntKind.i64) Ty.str)) o3, Obj.arr (Ty.int IntKind.i64) o4], blk := 53248 }
def nodedisk_Disk_Write_n0 {β : Type} : Idisk_Disk_Write_n0 → (Ydisk_Disk_Write_n0 → Option β) → Option β := fun (t1, t2, t7, t8, o0_3, o0_5, o0_6, o1, o2, o3, o4) exit => (bif t7 != (0 : Int) then (exit (!t8)) else (exit (false)))
def nodeDdisk_Disk_Write_n0 (i : Idisk_Disk_Write_n0) : Option Ydisk_Disk_Write_n0 := nodedisk_Disk_Write_n0 i some
theorem nodedisk_Disk_Write_n0_nat (i : Idisk_Disk_Write_n0) (k : Ydisk_Disk_Write_n0 → Ans) : nodedisk_Disk_Write_n0 i k = bindO (nodeDdisk_Disk_Write_n0 i) k := by
  obtain ⟨t1, t2, t7, t8, o0_3, o0_5, o0_6, o1, o2, o3, o4⟩ := i
  simp only [nodeDdisk_Disk_Write_n0, nodedisk_Disk_Write_n0, bindO_cond, bindO_assoc, bindO_none, bindO_pure, bindO_elim, bindO_unP]
theorem nodedisk_Disk_Write_n0_ok (i : Idisk_Disk_Write_n0) (K : Ex → St → Ans) : codeI Try.tab envdisk_Disk_Write noHint (codeD Try.tab envdisk_Disk_Write noHint 0 64) 70 64 annLdisk_Disk_Write_n0 Ldisk_Disk_Write_n0 (weakP 5 (exk [0, 1, 2, 7, 8, 19] [6] []) K) (Sdisk_Disk_Write_n0 i) = nodedisk_Disk_Write_n0 i (outdisk_Disk_Write_n0 i K) := by kernel_rfl
theorem GNdisk_Disk_Write_n0_ok : CSum Try.prog 64 Ldisk_Disk_Write_n0 (sumN decdisk_Disk_Write_n0 nodeDdisk_Disk_Write_n0 outdisk_Disk_Write_n0) := csum_node mixed tabOk envdisk_Disk_WriteOk 5 (exk [0, 1, 2, 7, 8, 19] [6] []) annLdisk_Disk_Write_n0_ok decdisk_Disk_Write_n0_ok nodedisk_Disk_Write_n0_ok nodedisk_Disk_Write_n0_nat
noncomputable def Gdisk_Disk_Write_n0 : (Ex → St → Ans) → St → Ans := (sumN decdisk_Disk_Write_n0 nodeDdisk_Disk_Write_n0 outdisk_Disk_Write_n0)
theorem Gdisk_Disk_Write_n0_ok : CSum Try.prog 64 Ldisk_Disk_Write_n0 Gdisk_Disk_Write_n0 := GNdisk_Disk_Write_n0_ok
noncomputable def anndisk_Disk_Write : Ann := (.seq .none (.seq .none (.seq (.seq (.cut 5 [0, 1, 2, 7, 8] Gdisk_Disk_Write_n0) .none) (.seq (.block (.seq .none (.cond (.seq (.seq .none (.cut 5 [7, 27] Gdisk_Disk_Write_n1)) .none) (.seq .none (.cond (.seq (.seq .none (.cut 5 [7, 34] Gdisk_Disk_Write_n2)) .none) .none))))) (.seq (.seq .none (.cut 5 [0, 1, 2, 7, 40] Gdisk_Disk_Write_n3)) .none)))))
theorem anndisk_Disk_Write_ok : AnnOk Try.prog 64 bdisk_Disk_Write anndisk_Disk_Write := ⟨(annOk_none _ _ _), ⟨(annOk_none _ _ _), ⟨⟨Gdisk_Disk_Write_n0_ok, (annOk_none _ _ _)⟩, ⟨⟨(annOk_none _ _ _), ⟨⟨⟨(annOk_none _ _ _), Gdisk_Disk_Write_n1_ok⟩, (annOk_none _ _ _)⟩, ⟨(annOk_none _ _ _), ⟨⟨⟨(annOk_none _ _ _), Gdisk_Disk_Write_n2_ok⟩, (annOk_none _ _ _)⟩, (annOk_none _ _ _)⟩⟩⟩⟩, ⟨⟨(annOk_none _ _ _), Gdisk_Disk_Write_n3_ok⟩, (annOk_none _ _ _)⟩⟩⟩⟩⟩
abbrev Adisk_Disk_Write := (Int) × (List UInt8) × (Int) × (Int) × (Bool) × (List (List UInt8)) × (List (Int × List UInt8)) × (List (Int × List UInt8)) × (List Int)
abbrev Ydisk_Disk_Write := (Int) × (Int) × (Bool) × (List (Int × List UInt8)) × (List (Int × List UInt8))
def fndisk_Disk_Write {β : Type} : Adisk_Disk_Write → (Ydisk_Disk_Write → Option β) → Option β := fun (a1, a2, o0_3, o0_5, o0_6, o1, o2, o3, o4) exit => (bindO (fnDdisk_Disk_call (o0_3, o0_5, o0_6, o1, o2, o3, o4)) (unP fun r_0 => unP fun r_1 => unP fun o0_3_2 o0_6_2 => (bindO (nodeDdisk_Disk_Write_n0 (a1, a2, r_0, r_1, o0_3_2, o0_5, o0_6_2, o1, o2, o3, o4)) fun t19 => (bif t19 then (exit (r_0, o0_3_2, o0_6_2, o2, o3)) else (bindO (fnDdisk_Disk_there (a1, o0_3_2, o0_5, o0_6_2, o1, o2, o3, o4)) fun r => (bif !r then (bindO (nodeDdisk_Disk_Write_n1 (r_0, !r_1, o0_3_2, o0_5, o0_6_2, o1, o2, o3, o4)) fun t7 => (exit (t7, o0_3_2, o0_6_2, o2, o3))) else (bif (↑(List.length a2) : Int) != (64 : Int) then (bindO (nodeDdisk_Disk_Write_n2 (r_0, !r_1, o0_3_2, o0_5, o0_6_2, o1, o2, o3, o4)) fun t7 => (exit (t7, o0_3_2, o0_6_2, o2, o3))) else (bindO (nodeDdisk_Disk_Write_n3 (a1, a2, r_0, o0_3_2, o0_5, o0_6_2, o1, o2, o3, o4)) fun _ => (bif Nat.ble ((List.length o3 + List.length [(a1, a2)]) * (24 : Nat)) (140737488355328 : Nat) then (exit (r_0, o0_3_2, o0_6_2, mput a1 a2 o2, o3 ++ [(a1, a2)])) else none)))))))))
def fnDdisk_Disk_Write (a : Adisk_Disk_Write) : Option Ydisk_Disk_Write := fndisk_Disk_Write a some
theorem fndisk_Disk_Write_nat (a : Adisk_Disk_Write) (k : Ydisk_Disk_Write → Ans) : fndisk_Disk_Write a k = bindO (fnDdisk_Disk_Write a) k := by
  obtain ⟨a1, a2, o0_3, o0_5, o0_6, o1, o2, o3, o4⟩ := a
  simp only [fnDdisk_Disk_Write, fndisk_Disk_Write, bindO_cond, bindO_assoc, bindO_none, bindO_pure, bindO_elim, bindO_unP]
def argsdisk_Disk_Write : Adisk_Disk_Write → List AV × List AE.Obj := fun (a1, a2, o0_3, o0_5, o0_6, o1, o2, o3, o4) => ([AV.ptr 0 0, AV.int IntKind.i64 a1, AV.str a2], [AE.Obj.cells [AV.own 1, AV.map 2, AV.own 3, AV.int IntKind.i64 o0_3, AV.own 4, AV.int IntKind.i64 o0_5, AV.bool o0_6], Obj.arr Ty.str o1, Obj.mp IntKind.i64 Ty.str o2, Obj.arr (Ty.st (Ty.pair (Ty.int IntKind.i64) Ty.str)) o3, Obj.arr (Ty.int IntKind.i64) o4])
def decAdisk_Disk_Write (l : List AV) (H : List AE.Obj) : Option Adisk_Disk_Write := match l, H with
  | [AV.ptr 0 0, AV.int IntKind.i64 a1, AV.str a2], [AE.Obj.cells [AV.own 1, AV.map 2, AV.own 3, AV.int IntKind.i64 o0_3, AV.own 4, AV.int IntKind.i64 o0_5, AV.bool o0_6], Obj.arr Ty.str o1, Obj.mp IntKind.i64 Ty.str o2, Obj.arr (Ty.st (Ty.pair (Ty.int IntKind.i64) Ty.str)) o3, Obj.arr (Ty.int IntKind.i64) o4] => some (a1, a2, o0_3, o0_5, o0_6, o1, o2, o3, o4)
  | _, _ => none
theorem decAdisk_Disk_Write_ok (l : List AV) (H : List AE.Obj) (a : Adisk_Disk_Write) (h : decAdisk_Disk_Write l H = some a) : (l, H) = argsdisk_Disk_Write a := by
  unfold decAdisk_Disk_Write at h
  split at h
  · cases h; rfl
  · cases h
def outdisk_Disk_Write : Adisk_Disk_Write → (AV → List AE.Obj → Ans) → Ydisk_Disk_Write → Ans := fun (a1, a2, o0_3, o0_5, o0_6, o1, o2, o3, o4) K => unP fun r_y => unP fun o0_3_y => unP fun o0_6_y => unP fun o2_y o3_y => K (AV.int IntKind.i64 r_y) [AE.Obj.cells [AV.own 1, AV.map 2, AV.own 3, AV.int IntKind.i64 o0_3_y, AV.own 4, AV.int IntKind.i64 o0_5, AV.bool o0_6_y], Obj.arr Ty.str o1, Obj.mp IntKind.i64 Ty.str o2_y, Obj.arr (Ty.st (Ty.pair (Ty.int IntKind.i64) Ty.str)) o3_y, Obj.arr (Ty.int IntKind.i64) o4]
theorem fndisk_Disk_Write_ok (a : Adisk_Disk_Write) (K : AV → List AE.Obj → Ans) : fnE Try.tab envdisk_Disk_Write noHint 0 70 13 Try.f13.ntmps Try.f13.results.toList anndisk_Disk_Write bdisk_Disk_Write (argsdisk_Disk_Write a).1 (argsdisk_Disk_Write a).2 K = fndisk_Disk_Write a (outdisk_Disk_Write a K) := by kernel_rfl
def vFdisk_Disk_Write (a : Adisk_Disk_Write) (K : AV → List AE.Obj → Ans) : Ans := bindO (fnDdisk_Disk_Write a) fun y => outdisk_Disk_Write a K y
def Fdisk_Disk_Write : List AV → List AE.Obj → (AV → List AE.Obj → Ans) → Ans := fun l H K => bindO (decAdisk_Disk_Write l H) fun a => vFdisk_Disk_Write a K
theorem Fdisk_Disk_Write_ok : FuncOk Try.prog 13 Fdisk_Disk_Write := func_mkD (hint := noHint) (d := 0) (n := 70) mixed tabOk envdisk_Disk_WriteOk Try.func13 (bodySome (by kernel_rfl)) (by decide +kernel) anndisk_Disk_Write_ok decAdisk_Disk_Write_ok fndisk_Disk_Write_ok fndisk_Disk_Write_nat
--@ region_Region_Write
noncomputable def envregion_Region_Write : Env := [(34, .func Fregion_Region_Split), (13, .func Fdisk_Disk_Write)]
theorem envregion_Region_WriteOk : EnvOk Try.prog envregion_Region_Write := EnvOk.cons Fregion_Region_Split_ok (EnvOk.cons Fdisk_Disk_Write_ok (EnvOk.nil))
noncomputable def bregion_Region_Write : Code := Try.f31.body.getD .skip
noncomputable def Lregion_Region_Write_n0 : Code := codeAt [1, 1, 0, 1, 0, 0] bregion_Region_Write
noncomputable def annLregion_Region_Write_n0 : Ann := .at 6 [0, 8, 19, 20, 21] (.loop .none)
theorem annLregion_Region_Write_n0_ok : AnnOk Try.prog 39 (.loop Lregion_Region_Write_n0) annLregion_Region_Write_n0 := annOk_at (annOk_none _ _ _)
abbrev Iregion_Region_Write_n0 := (Int) × (Int) × (Int) × (Int) × (Int) × (List (List UInt8)) × (List Int) × (List (Int × List UInt8))
abbrev Yregion_Region_Write_n0 := ((Int) × (Int) × (Bool) × (List (Int × List UInt8)) × (List (Int × List UInt8))) ⊕ ((Int) × (Bool) × (List (Int × List UInt8)) × (List (Int × List UInt8)))
abbrev Vregion_Region_Write_n0 := (Int) × (Int) × (Bool) × (List (Int × List UInt8)) × (List (Int × List UInt8))
def Sregion_Region_Write_n0 : Iregion_Region_Write_n0 → Vregion_Region_Write_n0 → St := fun (t8, t20, o0_1, o0_2, o1_5, o2, o5, o6) (t21, o1_3, o1_6, o3, o4) => { env := [(0, AV.ptr 0 0), (8, AV.int IntKind.i64 t8), (19, AV.own 6), (20, AV.int IntKind.i64 t20), (21, AV.int IntKind.i64 t21)], stk := [[(0, AV.ptr 0 0), (1, AV.ptr 1 0)]], H := [AE.Obj.cells [AV.ptr 1 0, AV.int IntKind.i64 o0_1, AV.int IntKind.i64 o0_2], AE.Obj.cells [AV.own 2, AV.map 3, AV.own 4, AV.int IntKind.i64 o1_3, AV.own 5, AV.int IntKind.i64 o1_5, AV.bool o1_6], Obj.arr Ty.str o2, Obj.mp IntKind.i64 Ty.str o3, Obj.arr (Ty.st (Ty.pair (Ty.int IntKind.i64) Ty.str)) o4, Obj.arr (Ty.int IntKind.i64) o5, Obj.arr (Ty.st (Ty.pair (Ty.int IntKind.i64) Ty.str)) o6], blk := 126976 }
def decregion_Region_Write_n0 (s : St) : Option (Iregion_Region_Write_n0 × Vregion_Region_Write_n0) := match s with
  | { env := [(0, AV.ptr 0 0), (8, AV.int IntKind.i64 t8), (19, AV.own 6), (20, AV.int IntKind.i64 t20), (21, AV.int IntKind.i64 t21)], stk := [[(0, AV.ptr 0 0), (1, AV.ptr 1 0)]], H := [AE.Obj.cells [AV.ptr 1 0, AV.int IntKind.i64 o0_1, AV.int IntKind.i64 o0_2], AE.Obj.cells [AV.own 2, AV.map 3, AV.own 4, AV.int IntKind.i64 o1_3, AV.own 5, AV.int IntKind.i64 o1_5, AV.bool o1_6], Obj.arr Ty.str o2, Obj.mp IntKind.i64 Ty.str o3, Obj.arr (Ty.st (Ty.pair (Ty.int IntKind.i64) Ty.str)) o4, Obj.arr (Ty.int IntKind.i64) o5, Obj.arr (Ty.st (Ty.pair (Ty.int IntKind.i64) Ty.str)) o6], blk := 126976 } => some ((t8, t20, o0_1, o0_2, o1_5, o2, o5, o6), (t21, o1_3, o1_6, o3, o4))
  | _ => none
theorem decregion_Region_Write_n0_ok (s : St) (x : Iregion_Region_Write_n0 × Vregion_Region_Write_n0) (h : decregion_Region_Write_n0 s = some x) : s = Sregion_Region_Write_n0 x.1 x.2 := by
  unfold decregion_Region_Write_n0 at h
  split at h
  · cases h; rfl
  · cases h
def outregion_Region_Write_n0 : Iregion_Region_Write_n0 → (Ex → St → Ans) → Yregion_Region_Write_n0 → Ans := fun (t8, t20, o0_1, o0_2, o1_5, o2, o5, o6) K => (Sum.elim (unP fun t6_y => unP fun o1_3_y => unP fun o1_6_y => unP fun o3_y o4_y => K (Ex.ret) { env := [(6, AV.int IntKind.i64 t6_y)], stk := [[(0, AV.ptr 0 0), (1, AV.ptr 1 0)]], H := [AE.Obj.cells [AV.ptr 1 0, AV.int IntKind.i64 o0_1, AV.int IntKind.i64 o0_2], AE.Obj.cells [AV.own 2, AV.map 3, AV.own 4, AV.int IntKind.i64 o1_3_y, AV.own 5, AV.int IntKind.i64 o1_5, AV.bool o1_6_y], Obj.arr Ty.str o2, Obj.mp IntKind.i64 Ty.str o3_y, Obj.arr (Ty.st (Ty.pair (Ty.int IntKind.i64) Ty.str)) o4_y, Obj.arr (Ty.int IntKind.i64) o5], blk := 126977 }) (unP fun o1_3_y => unP fun o1_6_y => unP fun o3_y o4_y => K (Ex.exit 0) { env := [(8, AV.int IntKind.i64 t8)], stk := [[(0, AV.ptr 0 0), (1, AV.ptr 1 0)]], H := [AE.Obj.cells [AV.ptr 1 0, AV.int IntKind.i64 o0_1, AV.int IntKind.i64 o0_2], AE.Obj.cells [AV.own 2, AV.map 3, AV.own 4, AV.int IntKind.i64 o1_3_y, AV.own 5, AV.int IntKind.i64 o1_5, AV.bool o1_6_y], Obj.arr Ty.str o2, Obj.mp IntKind.i64 Ty.str o3_y, Obj.arr (Ty.st (Ty.pair (Ty.int IntKind.i64) Ty.str)) o4_y, Obj.arr (Ty.int IntKind.i64) o5], blk := 126976 }))
def stepregion_Region_Write_n0 {β : Type} : Iregion_Region_Write_n0 → Vregion_Region_Write_n0 → (Vregion_Region_Write_n0 → Option β) → (Yregion_Region_Write_n0 → Option β) → Option β := fun (t8, t20, o0_1, o0_2, o1_5, o2, o5, o6) (t21, o1_3, o1_6, o3, o4) next exit => (bif decide (t21 < t20) then (bif inR t21 (List.length o6) then (bindO (o6[Int.toNat t21]?) fun x => (bindO (fnDdisk_Disk_Write (x.fst, x.snd, o1_3, o1_5, o1_6, o2, o3, o4, o5)) (unP fun r => unP fun o0_3 => unP fun o0_6 => unP fun o2_2 o3_2 => (bif r != (0 : Int) then (exit (Sum.inl (r, o0_3, o0_6, o2_2, o3_2))) else (next (IntKind.wrap IntKind.i64 (t21 + (1 : Int)), o0_3, o0_6, o2_2, o3_2)))))) else none) else (exit (Sum.inr (o1_3, o1_6, o3, o4))))
def stepDregion_Region_Write_n0 (i : Iregion_Region_Write_n0) (v : Vregion_Region_Write_n0) : Option (Vregion_Region_Write_n0 ⊕ Yregion_Region_Write_n0) := stepregion_Region_Write_n0 i v (fun v => some (.inl v)) (fun y => some (.inr y))
theorem stepregion_Region_Write_n0_nat (i : Iregion_Region_Write_n0) (v : Vregion_Region_Write_n0) (next : Vregion_Region_Write_n0 → Ans) (exit : Yregion_Region_Write_n0 → Ans) : stepregion_Region_Write_n0 i v next exit = bindO (stepDregion_Region_Write_n0 i v) (Sum.elim next exit) := by
  obtain ⟨t8, t20, o0_1, o0_2, o1_5, o2, o5, o6⟩ := i
  obtain ⟨t21, o1_3, o1_6, o3, o4⟩ := v
  simp only [stepDregion_Region_Write_n0, stepregion_Region_Write_n0, bindO_cond, bindO_assoc, bindO_none, bindO_pure, bindO_elim, bindO_unP, Sum.elim_inl, Sum.elim_inr]
theorem stepregion_Region_Write_n0_ok (n : Nat) (i : Iregion_Region_Write_n0) (v : Vregion_Region_Write_n0) (K : Ex → St → Ans) : codeI Try.tab envregion_Region_Write noHint (codeD Try.tab envregion_Region_Write noHint 0 64) (n+1) 39 annLregion_Region_Write_n0 (.loop Lregion_Region_Write_n0) (weakP 6 (exk [8] [6] [(0, [8])]) K) (Sregion_Region_Write_n0 i v) = stepregion_Region_Write_n0 i v (fun v' => codeI Try.tab envregion_Region_Write noHint (codeD Try.tab envregion_Region_Write noHint 0 64) n 39 annLregion_Region_Write_n0 (.loop Lregion_Region_Write_n0) (weakP 6 (exk [8] [6] [(0, [8])]) K) (Sregion_Region_Write_n0 i v')) (fun y => outregion_Region_Write_n0 i K y) := by kernel_rfl
theorem GNregion_Region_Write_n0_ok : CSum Try.prog 39 (.loop Lregion_Region_Write_n0) (sumL decregion_Region_Write_n0 stepDregion_Region_Write_n0 outregion_Region_Write_n0) := csum_loop mixed tabOk envregion_Region_WriteOk 6 (exk [8] [6] [(0, [8])]) annLregion_Region_Write_n0_ok decregion_Region_Write_n0_ok stepregion_Region_Write_n0_ok stepregion_Region_Write_n0_nat
noncomputable def Gregion_Region_Write_n0 : (Ex → St → Ans) → St → Ans := (sumL decregion_Region_Write_n0 stepDregion_Region_Write_n0 outregion_Region_Write_n0)
theorem Gregion_Region_Write_n0_ok : CSum Try.prog 39 (.loop Lregion_Region_Write_n0) Gregion_Region_Write_n0 := GNregion_Region_Write_n0_ok
noncomputable def annregion_Region_Write : Ann := (.seq .none (.seq .none (.seq (.seq .none (.block (.cut 6 [0, 8, 19, 20, 21] Gregion_Region_Write_n0))) .none)))
theorem annregion_Region_Write_ok : AnnOk Try.prog 39 bregion_Region_Write annregion_Region_Write := ⟨(annOk_none _ _ _), ⟨(annOk_none _ _ _), ⟨⟨(annOk_none _ _ _), Gregion_Region_Write_n0_ok⟩, (annOk_none _ _ _)⟩⟩⟩
abbrev Aregion_Region_Write := (Int) × (List UInt8) × (Int) × (Int) × (Int) × (Int) × (Bool) × (List (List UInt8)) × (List (Int × List UInt8)) × (List (Int × List UInt8)) × (List Int)
abbrev Yregion_Region_Write := (Int) × (Int) × (Bool) × (List (Int × List UInt8)) × (List (Int × List UInt8))
def fnregion_Region_Write {β : Type} : Aregion_Region_Write → (Yregion_Region_Write → Option β) → Option β := fun (a1, a2, o0_1, o0_2, o1_3, o1_5, o1_6, o2, o3, o4, o5) exit => (bindO (fnDregion_Region_Split (a1, a2, o0_1, o0_2, o1_3, o1_5, o1_6, o2, o3, o4, o5)) (unP fun r_1 o6 => (bindO (loopD (stepDregion_Region_Write_n0 (r_1, (↑(List.length o6) : Int), o0_1, o0_2, o1_5, o2, o5, o6)) FUEL ((0 : Int), o1_3, o1_6, o3, o4)) (Sum.elim (unP fun t6 => unP fun o1_3_2 => unP fun o1_6_2 => unP fun o3_2 o4_2 => (exit (t6, o1_3_2, o1_6_2, o3_2, o4_2))) (unP fun o1_3_2 => unP fun o1_6_2 => unP fun o3_2 o4_2 => (exit (r_1, o1_3_2, o1_6_2, o3_2, o4_2)))))))
def fnDregion_Region_Write (a : Aregion_Region_Write) : Option Yregion_Region_Write := fnregion_Region_Write a some
theorem fnregion_Region_Write_nat (a : Aregion_Region_Write) (k : Yregion_Region_Write → Ans) : fnregion_Region_Write a k = bindO (fnDregion_Region_Write a) k := by
  obtain ⟨a1, a2, o0_1, o0_2, o1_3, o1_5, o1_6, o2, o3, o4, o5⟩ := a
  simp only [fnDregion_Region_Write, fnregion_Region_Write, bindO_cond, bindO_assoc, bindO_none, bindO_pure, bindO_elim, bindO_unP]
def argsregion_Region_Write : Aregion_Region_Write → List AV × List AE.Obj := fun (a1, a2, o0_1, o0_2, o1_3, o1_5, o1_6, o2, o3, o4, o5) => ([AV.ptr 0 0, AV.int IntKind.i64 a1, AV.str a2], [AE.Obj.cells [AV.ptr 1 0, AV.int IntKind.i64 o0_1, AV.int IntKind.i64 o0_2], AE.Obj.cells [AV.own 2, AV.map 3, AV.own 4, AV.int IntKind.i64 o1_3, AV.own 5, AV.int IntKind.i64 o1_5, AV.bool o1_6], Obj.arr Ty.str o2, Obj.mp IntKind.i64 Ty.str o3, Obj.arr (Ty.st (Ty.pair (Ty.int IntKind.i64) Ty.str)) o4, Obj.arr (Ty.int IntKind.i64) o5])
def decAregion_Region_Write (l : List AV) (H : List AE.Obj) : Option Aregion_Region_Write := match l, H with
  | [AV.ptr 0 0, AV.int IntKind.i64 a1, AV.str a2], [AE.Obj.cells [AV.ptr 1 0, AV.int IntKind.i64 o0_1, AV.int IntKind.i64 o0_2], AE.Obj.cells [AV.own 2, AV.map 3, AV.own 4, AV.int IntKind.i64 o1_3, AV.own 5, AV.int IntKind.i64 o1_5, AV.bool o1_6], Obj.arr Ty.str o2, Obj.mp IntKind.i64 Ty.str o3, Obj.arr (Ty.st (Ty.pair (Ty.int IntKind.i64) Ty.str)) o4, Obj.arr (Ty.int IntKind.i64) o5] => some (a1, a2, o0_1, o0_2, o1_3, o1_5, o1_6, o2, o3, o4, o5)
  | _, _ => none
theorem decAregion_Region_Write_ok (l : List AV) (H : List AE.Obj) (a : Aregion_Region_Write) (h : decAregion_Region_Write l H = some a) : (l, H) = argsregion_Region_Write a := by
  unfold decAregion_Region_Write at h
  split at h
  · cases h; rfl
  · cases h
def outregion_Region_Write : Aregion_Region_Write → (AV → List AE.Obj → Ans) → Yregion_Region_Write → Ans := fun (a1, a2, o0_1, o0_2, o1_3, o1_5, o1_6, o2, o3, o4, o5) K => unP fun r_y => unP fun o1_3_y => unP fun o1_6_y => unP fun o3_y o4_y => K (AV.int IntKind.i64 r_y) [AE.Obj.cells [AV.ptr 1 0, AV.int IntKind.i64 o0_1, AV.int IntKind.i64 o0_2], AE.Obj.cells [AV.own 2, AV.map 3, AV.own 4, AV.int IntKind.i64 o1_3_y, AV.own 5, AV.int IntKind.i64 o1_5, AV.bool o1_6_y], Obj.arr Ty.str o2, Obj.mp IntKind.i64 Ty.str o3_y, Obj.arr (Ty.st (Ty.pair (Ty.int IntKind.i64) Ty.str)) o4_y, Obj.arr (Ty.int IntKind.i64) o5]
theorem fnregion_Region_Write_ok (a : Aregion_Region_Write) (K : AV → List AE.Obj → Ans) : fnE Try.tab envregion_Region_Write noHint 0 70 31 Try.f31.ntmps Try.f31.results.toList annregion_Region_Write bregion_Region_Write (argsregion_Region_Write a).1 (argsregion_Region_Write a).2 K = fnregion_Region_Write a (outregion_Region_Write a K) := by kernel_rfl
def vFregion_Region_Write (a : Aregion_Region_Write) (K : AV → List AE.Obj → Ans) : Ans := bindO (fnDregion_Region_Write a) fun y => outregion_Region_Write a K y
def Fregion_Region_Write : List AV → List AE.Obj → (AV → List AE.Obj → Ans) → Ans := fun l H K => bindO (decAregion_Region_Write l H) fun a => vFregion_Region_Write a K
theorem Fregion_Region_Write_ok : FuncOk Try.prog 31 Fregion_Region_Write := func_mkD (hint := noHint) (d := 0) (n := 70) mixed tabOk envregion_Region_WriteOk Try.func31 (bodySome (by kernel_rfl)) (by decide +kernel) annregion_Region_Write_ok decAregion_Region_Write_ok fnregion_Region_Write_ok fnregion_Region_Write_nat
--@ region_Region_Many
noncomputable def envregion_Region_Many : Env := []
theorem envregion_Region_ManyOk : EnvOk Try.prog envregion_Region_Many := EnvOk.nil
noncomputable def bregion_Region_Many : Code := Try.f36.body.getD .skip
noncomputable def annregion_Region_Many : Ann := .none
theorem annregion_Region_Many_ok : AnnOk Try.prog 9 bregion_Region_Many annregion_Region_Many := (annOk_none _ _ _)
abbrev Aregion_Region_Many := (Int) × (Int) × (Int) × (Int) × (Bool) × (List (List UInt8)) × (List (Int × List UInt8)) × (List (Int × List UInt8)) × (List Int)
abbrev Yregion_Region_Many := Unit
def fnregion_Region_Many {β : Type} : Aregion_Region_Many → (Yregion_Region_Many → Option β) → Option β := fun (o0_1, o0_2, o1_3, o1_5, o1_6, o2, o3, o4, o5) exit => (exit ())
def fnDregion_Region_Many (a : Aregion_Region_Many) : Option Yregion_Region_Many := fnregion_Region_Many a some
theorem fnregion_Region_Many_nat (a : Aregion_Region_Many) (k : Yregion_Region_Many → Ans) : fnregion_Region_Many a k = bindO (fnDregion_Region_Many a) k := by
  obtain ⟨o0_1, o0_2, o1_3, o1_5, o1_6, o2, o3, o4, o5⟩ := a
  simp only [fnDregion_Region_Many, fnregion_Region_Many, bindO_cond, bindO_assoc, bindO_none, bindO_pure, bindO_elim, bindO_unP]
def argsregion_Region_Many : Aregion_Region_Many → List AV × List AE.Obj := fun (o0_1, o0_2, o1_3, o1_5, o1_6, o2, o3, o4, o5) => ([AV.ptr 0 0], [AE.Obj.cells [AV.ptr 1 0, AV.int IntKind.i64 o0_1, AV.int IntKind.i64 o0_2], AE.Obj.cells [AV.own 2, AV.map 3, AV.own 4, AV.int IntKind.i64 o1_3, AV.own 5, AV.int IntKind.i64 o1_5, AV.bool o1_6], Obj.arr Ty.str o2, Obj.mp IntKind.i64 Ty.str o3, Obj.arr (Ty.st (Ty.pair (Ty.int IntKind.i64) Ty.str)) o4, Obj.arr (Ty.int IntKind.i64) o5])
def decAregion_Region_Many (l : List AV) (H : List AE.Obj) : Option Aregion_Region_Many := match l, H with
  | [AV.ptr 0 0], [AE.Obj.cells [AV.ptr 1 0, AV.int IntKind.i64 o0_1, AV.int IntKind.i64 o0_2], AE.Obj.cells [AV.own 2, AV.map 3, AV.own 4, AV.int IntKind.i64 o1_3, AV.own 5, AV.int IntKind.i64 o1_5, AV.bool o1_6], Obj.arr Ty.str o2, Obj.mp IntKind.i64 Ty.str o3, Obj.arr (Ty.st (Ty.pair (Ty.int IntKind.i64) Ty.str)) o4, Obj.arr (Ty.int IntKind.i64) o5] => some (o0_1, o0_2, o1_3, o1_5, o1_6, o2, o3, o4, o5)
  | _, _ => none
theorem decAregion_Region_Many_ok (l : List AV) (H : List AE.Obj) (a : Aregion_Region_Many) (h : decAregion_Region_Many l H = some a) : (l, H) = argsregion_Region_Many a := by
  unfold decAregion_Region_Many at h
  split at h
  · cases h; rfl
  · cases h
def outregion_Region_Many : Aregion_Region_Many → (AV → List AE.Obj → Ans) → Yregion_Region_Many → Ans := fun (o0_1, o0_2, o1_3, o1_5, o1_6, o2, o3, o4, o5) K => fun _ => K (AV.int IntKind.i64 o0_2) [AE.Obj.cells [AV.ptr 1 0, AV.int IntKind.i64 o0_1, AV.int IntKind.i64 o0_2], AE.Obj.cells [AV.own 2, AV.map 3, AV.own 4, AV.int IntKind.i64 o1_3, AV.own 5, AV.int IntKind.i64 o1_5, AV.bool o1_6], Obj.arr Ty.str o2, Obj.mp IntKind.i64 Ty.str o3, Obj.arr (Ty.st (Ty.pair (Ty.int IntKind.i64) Ty.str)) o4, Obj.arr (Ty.int IntKind.i64) o5]
theorem fnregion_Region_Many_ok (a : Aregion_Region_Many) (K : AV → List AE.Obj → Ans) : fnE Try.tab envregion_Region_Many noHint 0 70 36 Try.f36.ntmps Try.f36.results.toList annregion_Region_Many bregion_Region_Many (argsregion_Region_Many a).1 (argsregion_Region_Many a).2 K = fnregion_Region_Many a (outregion_Region_Many a K) := by kernel_rfl
def vFregion_Region_Many (a : Aregion_Region_Many) (K : AV → List AE.Obj → Ans) : Ans := bindO (fnDregion_Region_Many a) fun y => outregion_Region_Many a K y
def Fregion_Region_Many : List AV → List AE.Obj → (AV → List AE.Obj → Ans) → Ans := fun l H K => bindO (decAregion_Region_Many l H) fun a => vFregion_Region_Many a K
theorem Fregion_Region_Many_ok : FuncOk Try.prog 36 Fregion_Region_Many := func_mkD (hint := noHint) (d := 0) (n := 70) mixed tabOk envregion_Region_ManyOk Try.func36 (bodySome (by kernel_rfl)) (by decide +kernel) annregion_Region_Many_ok decAregion_Region_Many_ok fnregion_Region_Many_ok fnregion_Region_Many_nat
--@ law09_works
noncomputable def envlaw09_works : Env := [(12, .func Fdisk_New), (28, .func Fregion_New), (33, .func (altF decAregion_Region_Place vFregion_Region_Place Fregion_Region_Place_2)), (29, .pure Fregion_Pad), (31, .func Fregion_Region_Write), (36, .func Fregion_Region_Many)]
theorem envlaw09_worksOk : EnvOk Try.prog envlaw09_works := EnvOk.cons Fdisk_New_ok (EnvOk.cons Fregion_New_ok (EnvOk.cons (func_altF Fregion_Region_Place_ok Fregion_Region_Place_2_ok) (EnvOk.cons Fregion_Pad_ok (EnvOk.cons Fregion_Region_Write_ok (EnvOk.cons Fregion_Region_Many_ok (EnvOk.nil))))))
noncomputable def blaw09_works : Code := Try.f27.body.getD .skip
noncomputable def Llaw09_works_n0 : Code := codeAt [1, 1, 1, 1, 0] blaw09_works
noncomputable def annLlaw09_works_n0 : Ann := .none
theorem annLlaw09_works_n0_ok : AnnOk Try.prog 52 Llaw09_works_n0 annLlaw09_works_n0 := (annOk_none _ _ _)
abbrev Ilaw09_works_n0 := Unit
abbrev Ylaw09_works_n0 := Unit
def Slaw09_works_n0 : Ilaw09_works_n0 → St := fun _ => { env := [(1, AV.nilp), (2, AV.int IntKind.i64 (3)), (3, AV.int IntKind.i64 (0)), (4, AV.int IntKind.i64 (10)), (6, AV.int IntKind.i64 (10))], stk := [[]], H := [], blk := 110592 }
def declaw09_works_n0 (s : St) : Option Ilaw09_works_n0 := match s with
  | { env := [(1, AV.nilp), (2, AV.int IntKind.i64 r0), (3, AV.int IntKind.i64 r1), (4, AV.int IntKind.i64 r2), (6, AV.int IntKind.i64 r3)], stk := [[]], H := [], blk := 110592 } => cond (decide (r0 = 3) && decide (r1 = 0) && decide (r2 = 10) && decide (r3 = 10)) (some ()) none
  | _ => none
theorem declaw09_works_n0_ok (s : St) (x : Ilaw09_works_n0) (h : declaw09_works_n0 s = some x) : s = Slaw09_works_n0 x := by
  unfold declaw09_works_n0 at h
  split at h
  · replace h := cond_noneO h; obtain ⟨hg, h⟩ := h; simp only [Bool.and_eq_true, decide_eq_true_eq] at hg; simp only [hg]; cases h; rfl
  · cases h
def outlaw09_works_n0 : Ilaw09_works_n0 → (Ex → St → Ans) → Ylaw09_works_n0 → Ans := fun _ K => fun _ => K (Ex.norm) { env := [(0, AV.bool (false))], stk := [[]], H := [], blk := 110592 }
def nodelaw09_works_n0 {β : Type} : Ilaw09_works_n0 → (Ylaw09_works_n0 → Option β) → Option β := fun _ exit => (exit ())
def nodeDlaw09_works_n0 (i : Ilaw09_works_n0) : Option Ylaw09_works_n0 := nodelaw09_works_n0 i some
theorem nodelaw09_works_n0_nat (i : Ilaw09_works_n0) (k : Ylaw09_works_n0 → Ans) : nodelaw09_works_n0 i k = bindO (nodeDlaw09_works_n0 i) k := by
  obtain z := i
  simp only [nodeDlaw09_works_n0, nodelaw09_works_n0, bindO_cond, bindO_assoc, bindO_none, bindO_pure, bindO_elim, bindO_unP]
theorem nodelaw09_works_n0_ok (i : Ilaw09_works_n0) (K : Ex → St → Ans) : codeI Try.tab envlaw09_works noHint (codeD Try.tab envlaw09_works noHint 0 64) 70 52 annLlaw09_works_n0 Llaw09_works_n0 (weakP 0 (exk [0] [0] []) K) (Slaw09_works_n0 i) = nodelaw09_works_n0 i (outlaw09_works_n0 i K) := by kernel_rfl
theorem GNlaw09_works_n0_ok : CSum Try.prog 52 Llaw09_works_n0 (sumN declaw09_works_n0 nodeDlaw09_works_n0 outlaw09_works_n0) := csum_node mixed tabOk envlaw09_worksOk 0 (exk [0] [0] []) annLlaw09_works_n0_ok declaw09_works_n0_ok nodelaw09_works_n0_ok nodelaw09_works_n0_nat
abbrev Ilaw09_works_n0v1 := (Int) × (Int) × (Int) × (List (List UInt8))
abbrev Ylaw09_works_n0v1 := (Bool)
def Slaw09_works_n0v1 : Ilaw09_works_n0v1 → St := fun (t3, t4, t6, o2) => { env := [(1, AV.ptr 0 0), (2, AV.int IntKind.i64 (0)), (3, AV.int IntKind.i64 t3), (4, AV.int IntKind.i64 t4), (6, AV.int IntKind.i64 t6)], stk := [[]], H := [AE.Obj.cells [AV.ptr 1 0, AV.int IntKind.i64 (3), AV.int IntKind.i64 (2)], AE.Obj.cells [AV.own 2, AV.map 3, AV.own 4, AV.int IntKind.i64 (0), AV.own 5, AV.int IntKind.i64 (0), AV.bool (false)], Obj.arr Ty.str o2, Obj.mp IntKind.i64 Ty.str ([]), Obj.arr (Ty.st (Ty.pair (Ty.int IntKind.i64) Ty.str)) ([]), Obj.arr (Ty.int IntKind.i64) ([])], blk := 110592 }
def declaw09_works_n0v1 (s : St) : Option Ilaw09_works_n0v1 := match s with
  | { env := [(1, AV.ptr 0 0), (2, AV.int IntKind.i64 r0), (3, AV.int IntKind.i64 t3), (4, AV.int IntKind.i64 t4), (6, AV.int IntKind.i64 t6)], stk := [[]], H := [AE.Obj.cells [AV.ptr 1 0, AV.int IntKind.i64 r4, AV.int IntKind.i64 r5], AE.Obj.cells [AV.own 2, AV.map 3, AV.own 4, AV.int IntKind.i64 r6, AV.own 5, AV.int IntKind.i64 r7, AV.bool r8], Obj.arr Ty.str o2, Obj.mp IntKind.i64 Ty.str r10, Obj.arr (Ty.st (Ty.pair (Ty.int IntKind.i64) Ty.str)) r11, Obj.arr (Ty.int IntKind.i64) r12], blk := 110592 } => cond (decide (r0 = 0) && decide (r4 = 3) && decide (r5 = 2) && decide (r6 = 0) && decide (r7 = 0) && decide (r8 = false) && decide (r10 = []) && decide (r11 = []) && decide (r12 = [])) (some (t3, t4, t6, o2)) none
  | _ => none
theorem declaw09_works_n0v1_ok (s : St) (x : Ilaw09_works_n0v1) (h : declaw09_works_n0v1 s = some x) : s = Slaw09_works_n0v1 x := by
  unfold declaw09_works_n0v1 at h
  split at h
  · replace h := cond_noneO h; obtain ⟨hg, h⟩ := h; simp only [Bool.and_eq_true, decide_eq_true_eq] at hg; simp only [hg]; cases h; rfl
  · cases h
def outlaw09_works_n0v1 : Ilaw09_works_n0v1 → (Ex → St → Ans) → Ylaw09_works_n0v1 → Ans := fun (t3, t4, t6, o2) K => fun t0_y => K (Ex.norm) { env := [(0, AV.bool t0_y)], stk := [[]], H := [], blk := 110592 }
def nodelaw09_works_n0v1 {β : Type} : Ilaw09_works_n0v1 → (Ylaw09_works_n0v1 → Option β) → Option β := fun (t3, t4, t6, o2) exit => (bif t3 == (4 : Int) then (bif t4 == (0 : Int) then (bif t6 == (3 : Int) then (bindO (fnDregion_Pad ([(120 : UInt8)])) fun r => (bindO (fnDregion_Region_Write ((1 : Int), r, (3 : Int), (2 : Int), (0 : Int), (0 : Int), false, o2, [], [], [])) (unP fun r_2 => unP fun o1_3 => unP fun o1_6 => unP fun o3 o4 => (bif r_2 == (0 : Int) then (bindO (fnDregion_Region_Many ((3 : Int), (2 : Int), o1_3, (0 : Int), o1_6, o2, o3, o4, [])) fun _ => (bindO (fnDregion_Pad ([(120 : UInt8)])) fun r_3 => (exit ((↑(List.length r_3) : Int) == (64 : Int))))) else (exit (false)))))) else (exit (false))) else (exit (false))) else (exit (false)))
def nodeDlaw09_works_n0v1 (i : Ilaw09_works_n0v1) : Option Ylaw09_works_n0v1 := nodelaw09_works_n0v1 i some
theorem nodelaw09_works_n0v1_nat (i : Ilaw09_works_n0v1) (k : Ylaw09_works_n0v1 → Ans) : nodelaw09_works_n0v1 i k = bindO (nodeDlaw09_works_n0v1 i) k := by
  obtain ⟨t3, t4, t6, o2⟩ := i
  simp only [nodeDlaw09_works_n0v1, nodelaw09_works_n0v1, bindO_cond, bindO_assoc, bindO_none, bindO_pure, bindO_elim, bindO_unP]
theorem nodelaw09_works_n0v1_ok (i : Ilaw09_works_n0v1) (K : Ex → St → Ans) : codeI Try.tab envlaw09_works noHint (codeD Try.tab envlaw09_works noHint 0 64) 70 52 annLlaw09_works_n0 Llaw09_works_n0 (weakP 0 (exk [0] [0] []) K) (Slaw09_works_n0v1 i) = nodelaw09_works_n0v1 i (outlaw09_works_n0v1 i K) := by kernel_rfl
theorem GNlaw09_works_n0v1_ok : CSum Try.prog 52 Llaw09_works_n0 (sumN declaw09_works_n0v1 nodeDlaw09_works_n0v1 outlaw09_works_n0v1) := csum_node mixed tabOk envlaw09_worksOk 0 (exk [0] [0] []) annLlaw09_works_n0_ok declaw09_works_n0v1_ok nodelaw09_works_n0v1_ok nodelaw09_works_n0v1_nat
noncomputable def Glaw09_works_n0 : (Ex → St → Ans) → St → Ans := (altN declaw09_works_n0 (sumN declaw09_works_n0 nodeDlaw09_works_n0 outlaw09_works_n0) (sumN declaw09_works_n0v1 nodeDlaw09_works_n0v1 outlaw09_works_n0v1))
theorem Glaw09_works_n0_ok : CSum Try.prog 52 Llaw09_works_n0 Glaw09_works_n0 := (csum_altN GNlaw09_works_n0_ok GNlaw09_works_n0v1_ok)
noncomputable def annlaw09_works : Ann := (.seq .none (.seq .none (.seq .none (.seq .none (.seq (.cut 0 [1, 2, 3, 4, 6] Glaw09_works_n0) .none)))))
theorem annlaw09_works_ok : AnnOk Try.prog 52 blaw09_works annlaw09_works := ⟨(annOk_none _ _ _), ⟨(annOk_none _ _ _), ⟨(annOk_none _ _ _), ⟨(annOk_none _ _ _), ⟨Glaw09_works_n0_ok, (annOk_none _ _ _)⟩⟩⟩⟩⟩
abbrev Alaw09_works := Unit
abbrev Ylaw09_works := (Bool)
def fnlaw09_works {β : Type} : Alaw09_works → (Ylaw09_works → Option β) → Option β := fun _ exit => (bindO (fnDdisk_New ((6 : Int))) fun o1 => (bindO (fnDregion_New ((3 : Int), (2 : Int), (0 : Int), (0 : Int), false, o1, [], [], [])) (Sum.elim (fun _ => (bindO (fnDregion_Region_Place ((1 : Int))) fun _ => (bindO (fnDregion_Region_Place ((2 : Int))) fun _ => (bindO (nodeDlaw09_works_n0 ()) fun _ => (exit (false)))))) (fun _ => (bindO (fnDregion_Region_Place_2 ((1 : Int), (3 : Int), (2 : Int), (0 : Int), (0 : Int), false, o1, [], [], [])) (unP fun r_0 r_1 => (bindO (fnDregion_Region_Place_2 ((2 : Int), (3 : Int), (2 : Int), (0 : Int), (0 : Int), false, o1, [], [], [])) (unP fun r_0_2 r_1_2 => (bindO (nodeDlaw09_works_n0v1 (r_0, r_1, r_1_2, o1)) fun t0 => (exit (t0)))))))))))
def fnDlaw09_works (a : Alaw09_works) : Option Ylaw09_works := fnlaw09_works a some
theorem fnlaw09_works_nat (a : Alaw09_works) (k : Ylaw09_works → Ans) : fnlaw09_works a k = bindO (fnDlaw09_works a) k := by
  obtain z := a
  simp only [fnDlaw09_works, fnlaw09_works, bindO_cond, bindO_assoc, bindO_none, bindO_pure, bindO_elim, bindO_unP]
def argslaw09_works : Alaw09_works → List AV := fun _ => []
def decAlaw09_works (l : List AV) : Option Alaw09_works := match l with
  | [] => some ()
  | _ => none
theorem decAlaw09_works_ok (l : List AV) (a : Alaw09_works) (h : decAlaw09_works l = some a) : l = argslaw09_works a := by
  unfold decAlaw09_works at h
  split at h
  · cases h; rfl
  · cases h
def rendlaw09_works : Alaw09_works → Ylaw09_works → AV := fun _ => fun r_y => AV.bool r_y
theorem rendlaw09_works_ok : ∀ (a : Alaw09_works) (y : Ylaw09_works), (rendlaw09_works a y).closed1 = true := by
  rintro z y <;> first | rfl | exact Empty.elim y
theorem fnlaw09_works_ok (a : Alaw09_works) : fnE Try.tab envlaw09_works noHint 0 70 27 Try.f27.ntmps Try.f27.results.toList annlaw09_works blaw09_works (argslaw09_works a) [] (fun v _ => some (v, [])) = fnlaw09_works a (fun y => some (rendlaw09_works a y, [])) := by kernel_rfl
def vFlaw09_works (a : Alaw09_works) (K : AV → Ans) : Ans := bindO (fnDlaw09_works a) fun y => K (rendlaw09_works a y)
def Flaw09_works : List AV → (AV → Ans) → Ans := fun l K => bindO (decAlaw09_works l) fun a => vFlaw09_works a K
theorem Flaw09_works_ok : PureOk Try.prog 27 Flaw09_works := pure_mkD (hint := noHint) (d := 0) (n := 70) mixed tabOk envlaw09_worksOk Try.func27 (bodySome (by kernel_rfl)) (by decide +kernel) annlaw09_works_ok decAlaw09_works_ok fnlaw09_works_ok fnlaw09_works_nat rendlaw09_works_ok
end Go.Proofs.R3

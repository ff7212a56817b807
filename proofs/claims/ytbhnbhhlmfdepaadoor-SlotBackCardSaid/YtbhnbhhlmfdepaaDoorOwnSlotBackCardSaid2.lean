/- What the functions that SlotBackCardSaid reaches compute: part 2. -/
import Derived.Test.YtbhnbhhlmfdepaaDoorAe4
import Derived.Test.YtbhnbhhlmfdepaaDoorProg
import Derived.Test.YtbhnbhhlmfdepaaDoorChecked
import Derived.Eval
import Derived.Shelf.Strings.Builder1
import Derived.Shelf.Strings.Builder2
import Derived.Shelf.Strings.BuilderF
import Derived.Shelf.Strings.Prefix
import Derived.Shelf.Bits.Mul64
import Derived.Shelf.Strings.Repeat
set_option linter.unusedVariables false
set_option linter.unusedSimpArgs false
namespace Go.Proofs
instance Tryd.bt : Go.AE.BT := ⟨5, 76⟩
def Tryd.tab : Go.AE.Tab := [
  (1, ⟨.sc, 1, 8, [.nilf], none⟩),
  (2, ⟨.sc, 1, 8, [.int .i64 0], some (.int .i64)⟩),
  (3, ⟨.sc, 1, 8, [.int .i64 0], some (.int .i64)⟩),
  (4, ⟨.sc, 1, 1, [.bool false], some .bool⟩),
  (5, ⟨.sc, 1, 1, [.int .u8 0], some (.int .u8)⟩),
  (7, ⟨.struct [(2, 0), (3, 1), (4, 2), (6, 3)], 4, 24, [.int .i64 0, .int .i64 0, .bool false, .int .u8 0], some (.st (.pair (.int .i64) (.pair (.int .i64) (.pair .bool (.int .u8)))))⟩),
  (9, ⟨.sc, 1, 16, [.str []], some .str⟩),
  (12, ⟨.sc, 1, 8, [.int .u64 0], some (.int .u64)⟩),
  (20, ⟨.sc, 1, 16, [.nili], none⟩),
  (21, ⟨.sc, 1, 4, [.int .i32 0], some (.int .i32)⟩),
  (22, ⟨.struct [(3, 0), (3, 1)], 2, 16, [.int .i64 0, .int .i64 0], some (.st (.pair (.int .i64) (.int .i64)))⟩),
  (23, ⟨.struct [(3, 0), (3, 1)], 2, 16, [.int .i64 0, .int .i64 0], some (.st (.pair (.int .i64) (.int .i64)))⟩),
  (24, ⟨.struct [(23, 0), (9, 2)], 3, 32, [.int .i64 0, .int .i64 0, .str []], some (.st (.pair (.pair (.int .i64) (.int .i64)) .str))⟩),
  (25, ⟨.struct [(23, 0), (9, 2)], 3, 32, [.int .i64 0, .int .i64 0, .str []], some (.st (.pair (.pair (.int .i64) (.int .i64)) .str))⟩),
  (26, ⟨.struct [(3, 0), (25, 1), (25, 4)], 7, 72, [.int .i64 0, .int .i64 0, .int .i64 0, .str [], .int .i64 0, .int .i64 0, .str []], some (.st (.pair (.int .i64) (.pair (.pair (.pair (.int .i64) (.int .i64)) .str) (.pair (.pair (.int .i64) (.int .i64)) .str))))⟩),
  (27, ⟨.struct [(3, 0), (25, 1), (25, 4)], 7, 72, [.int .i64 0, .int .i64 0, .int .i64 0, .str [], .int .i64 0, .int .i64 0, .str []], some (.st (.pair (.int .i64) (.pair (.pair (.pair (.int .i64) (.int .i64)) .str) (.pair (.pair (.int .i64) (.int .i64)) .str))))⟩),
  (28, ⟨.sc, 1, 8, [.nilf], none⟩),
  (29, ⟨.sc, 1, 8, [.int .i64 0], some (.int .i64)⟩),
  (31, ⟨.sc, 1, 8, [.nilf], none⟩),
  (32, ⟨.sc, 1, 8, [.nilf], none⟩),
  (33, ⟨.sc, 1, 8, [.nilf], none⟩),
  (35, ⟨.sc, 1, 8, [.nilf], none⟩),
  (36, ⟨.sc, 1, 8, [.nilf], none⟩),
  (37, ⟨.array 4 5, 4, 4, [.int .u8 0, .int .u8 0, .int .u8 0, .int .u8 0], some (.st (.pair (.int .u8) (.pair (.int .u8) (.pair (.int .u8) (.int .u8)))))⟩),
  (38, ⟨.slice 5, 1, 24, [.nils], some (.list (.int .u8))⟩),
  (39, ⟨.sc, 1, 8, [.int .u64 0], some (.int .u64)⟩),
  (40, ⟨.sc, 1, 8, [.nilf], none⟩),
  (41, ⟨.sc, 1, 8, [.nilf], none⟩),
  (42, ⟨.sc, 1, 8, [.nilf], none⟩),
  (43, ⟨.sc, 1, 8, [.nilf], none⟩),
  (44, ⟨.sc, 1, 8, [.nilf], none⟩),
  (45, ⟨.sc, 1, 8, [.nilf], none⟩),
  (46, ⟨.sc, 1, 8, [.nilf], none⟩),
  (47, ⟨.ptr 63, 1, 8, [.nilp], none⟩),
  (48, ⟨.sc, 1, 8, [.nilf], none⟩),
  (49, ⟨.sc, 1, 8, [.nilf], none⟩),
  (50, ⟨.sc, 1, 8, [.nilf], none⟩),
  (51, ⟨.sc, 1, 8, [.nilf], none⟩),
  (52, ⟨.sc, 1, 8, [.nilf], none⟩),
  (53, ⟨.sc, 1, 8, [.nilf], none⟩),
  (54, ⟨.sc, 1, 8, [.nilf], none⟩),
  (55, ⟨.sc, 1, 8, [.nilf], none⟩),
  (56, ⟨.array 256 4, 256, 256, [.bool false, .bool false, .bool false, .bool false, .bool false, .bool false, .bool false, .bool false, .bool false, .bool false, .bool false, .bool false, .bool false, .bool false, .bool false, .bool false, .bool false, .bool false, .bool false, .bool false, .bool false, .bool false, .bool false, .bool false, .bool false, .bool false, .bool false, .bool false, .bool false, .bool false, .bool false, .bool false, .bool false, .bool false, .bool false, .bool false, .bool false, .bool false, .bool false, .bool false, .bool false, .bool false, .bool false, .bool false, .bool false, .bool false, .bool false, .bool false, .bool false, .bool false, .bool false, .bool false, .bool false, .bool false, .bool false, .bool false, .bool false, .bool false, .bool false, .bool false, .bool false, .bool false, .bool false, .bool false, .bool false, .bool false, .bool false, .bool false, .bool false, .bool false, .bool false, .bool false, .bool false, .bool false, .bool false, .bool false, .bool false, .bool false, .bool false, .bool false, .bool false, .bool false, .bool false, .bool false, .bool false, .bool false, .bool false, .bool false, .bool false, .bool false, .bool false, .bool false, .bool false, .bool false, .bool false, .bool false, .bool false, .bool false, .bool false, .bool false, .bool false, .bool false, .bool false, .bool false, .bool false, .bool false, .bool false, .bool false, .bool false, .bool false, .bool false, .bool false, .bool false, .bool false, .bool false, .bool false, .bool false, .bool false, .bool false, .bool false, .bool false, .bool false, .bool false, .bool false, .bool false, .bool false, .bool false, .bool false, .bool false, .bool false, .bool false, .bool false, .bool false, .bool false, .bool false, .bool false, .bool false, .bool false, .bool false, .bool false, .bool false, .bool false, .bool false, .bool false, .bool false, .bool false, .bool false, .bool false, .bool false, .bool false, .bool false, .bool false, .bool false, .bool false, .bool false, .bool false, .bool false, .bool false, .bool false, .bool false, .bool false, .bool false, .bool false, .bool false, .bool false, .bool false, .bool false, .bool false, .bool false, .bool false, .bool false, .bool false, .bool false, .bool false, .bool false, .bool false, .bool false, .bool false, .bool false, .bool false, .bool false, .bool false, .bool false, .bool false, .bool false, .bool false, .bool false, .bool false, .bool false, .bool false, .bool false, .bool false, .bool false, .bool false, .bool false, .bool false, .bool false, .bool false, .bool false, .bool false, .bool false, .bool false, .bool false, .bool false, .bool false, .bool false, .bool false, .bool false, .bool false, .bool false, .bool false, .bool false, .bool false, .bool false, .bool false, .bool false, .bool false, .bool false, .bool false, .bool false, .bool false, .bool false, .bool false, .bool false, .bool false, .bool false, .bool false, .bool false, .bool false, .bool false, .bool false, .bool false, .bool false, .bool false, .bool false, .bool false, .bool false, .bool false, .bool false, .bool false, .bool false, .bool false, .bool false, .bool false, .bool false, .bool false, .bool false, .bool false, .bool false, .bool false, .bool false, .bool false, .bool false, .bool false, .bool false, .bool false], none⟩),
  (57, ⟨.array 256 4, 256, 256, [.bool false, .bool false, .bool false, .bool false, .bool false, .bool false, .bool false, .bool false, .bool false, .bool false, .bool false, .bool false, .bool false, .bool false, .bool false, .bool false, .bool false, .bool false, .bool false, .bool false, .bool false, .bool false, .bool false, .bool false, .bool false, .bool false, .bool false, .bool false, .bool false, .bool false, .bool false, .bool false, .bool false, .bool false, .bool false, .bool false, .bool false, .bool false, .bool false, .bool false, .bool false, .bool false, .bool false, .bool false, .bool false, .bool false, .bool false, .bool false, .bool false, .bool false, .bool false, .bool false, .bool false, .bool false, .bool false, .bool false, .bool false, .bool false, .bool false, .bool false, .bool false, .bool false, .bool false, .bool false, .bool false, .bool false, .bool false, .bool false, .bool false, .bool false, .bool false, .bool false, .bool false, .bool false, .bool false, .bool false, .bool false, .bool false, .bool false, .bool false, .bool false, .bool false, .bool false, .bool false, .bool false, .bool false, .bool false, .bool false, .bool false, .bool false, .bool false, .bool false, .bool false, .bool false, .bool false, .bool false, .bool false, .bool false, .bool false, .bool false, .bool false, .bool false, .bool false, .bool false, .bool false, .bool false, .bool false, .bool false, .bool false, .bool false, .bool false, .bool false, .bool false, .bool false, .bool false, .bool false, .bool false, .bool false, .bool false, .bool false, .bool false, .bool false, .bool false, .bool false, .bool false, .bool false, .bool false, .bool false, .bool false, .bool false, .bool false, .bool false, .bool false, .bool false, .bool false, .bool false, .bool false, .bool false, .bool false, .bool false, .bool false, .bool false, .bool false, .bool false, .bool false, .bool false, .bool false, .bool false, .bool false, .bool false, .bool false, .bool false, .bool false, .bool false, .bool false, .bool false, .bool false, .bool false, .bool false, .bool false, .bool false, .bool false, .bool false, .bool false, .bool false, .bool false, .bool false, .bool false, .bool false, .bool false, .bool false, .bool false, .bool false, .bool false, .bool false, .bool false, .bool false, .bool false, .bool false, .bool false, .bool false, .bool false, .bool false, .bool false, .bool false, .bool false, .bool false, .bool false, .bool false, .bool false, .bool false, .bool false, .bool false, .bool false, .bool false, .bool false, .bool false, .bool false, .bool false, .bool false, .bool false, .bool false, .bool false, .bool false, .bool false, .bool false, .bool false, .bool false, .bool false, .bool false, .bool false, .bool false, .bool false, .bool false, .bool false, .bool false, .bool false, .bool false, .bool false, .bool false, .bool false, .bool false, .bool false, .bool false, .bool false, .bool false, .bool false, .bool false, .bool false, .bool false, .bool false, .bool false, .bool false, .bool false, .bool false, .bool false, .bool false, .bool false, .bool false, .bool false, .bool false, .bool false, .bool false, .bool false, .bool false, .bool false, .bool false, .bool false, .bool false, .bool false, .bool false, .bool false, .bool false, .bool false, .bool false, .bool false], none⟩),
  (59, ⟨.sc, 1, 8, [.nilf], none⟩),
  (60, ⟨.sc, 1, 8, [.nilf], none⟩),
  (61, ⟨.ptr 57, 1, 8, [.nilp], none⟩),
  (62, ⟨.struct [(9, 0), (29, 1)], 2, 24, [.str [], .int .i64 0], some (.st (.pair .str (.int .i64)))⟩),
  (63, ⟨.struct [(9, 0), (29, 1)], 2, 24, [.str [], .int .i64 0], some (.st (.pair .str (.int .i64)))⟩),
  (64, ⟨.sc, 1, 8, [.nilf], none⟩),
  (65, ⟨.sc, 1, 8, [.nilf], none⟩),
  (66, ⟨.sc, 1, 8, [.int .u64 0], some (.int .u64)⟩),
  (67, ⟨.ptr 89, 1, 8, [.nilp], none⟩),
  (68, ⟨.sc, 1, 8, [.nilf], none⟩),
  (69, ⟨.sc, 1, 8, [.nilf], none⟩),
  (70, ⟨.sc, 1, 8, [.nilf], none⟩),
  (72, ⟨.sc, 1, 8, [.nilf], none⟩),
  (73, ⟨.sc, 1, 8, [.nilf], none⟩),
  (74, ⟨.ptr 76, 1, 8, [.nilp], none⟩),
  (75, ⟨.struct [(74, 0), (38, 1)], 2, 32, [.nilp, .nils], none⟩),
  (76, ⟨.struct [(74, 0), (38, 1)], 2, 32, [.nilp, .nils], none⟩),
  (77, ⟨.sc, 1, 8, [.nilf], none⟩),
  (78, ⟨.sc, 1, 16, [.nili], none⟩),
  (79, ⟨.sc, 1, 16, [.nili], none⟩),
  (81, ⟨.sc, 1, 8, [.nilf], none⟩),
  (82, ⟨.sc, 1, 8, [.nilf], none⟩),
  (83, ⟨.sc, 1, 8, [.nilf], none⟩),
  (85, ⟨.sc, 1, 8, [.nilf], none⟩),
  (86, ⟨.sc, 1, 8, [.nilf], none⟩),
  (87, ⟨.sc, 1, 4, [.int .u32 0], some (.int .u32)⟩),
  (88, ⟨.struct [(87, 0)], 1, 4, [.int .u32 0], some (.st (.int .u32))⟩),
  (89, ⟨.struct [(87, 0)], 1, 4, [.int .u32 0], some (.st (.int .u32))⟩),
  (90, ⟨.sc, 1, 8, [.nilf], none⟩),
  (92, ⟨.sc, 1, 8, [.nilf], none⟩),
  (94, ⟨.sc, 1, 8, [.nilf], none⟩),
  (95, ⟨.ptr 5, 1, 8, [.nilp], none⟩),
  (96, ⟨.sc, 1, 8, [.nilf], none⟩),
  (98, ⟨.sc, 1, 8, [.nilf], none⟩),
  (99, ⟨.sc, 1, 8, [.nilf], none⟩),
  (100, ⟨.array 256 5, 256, 256, [.int .u8 0, .int .u8 0, .int .u8 0, .int .u8 0, .int .u8 0, .int .u8 0, .int .u8 0, .int .u8 0, .int .u8 0, .int .u8 0, .int .u8 0, .int .u8 0, .int .u8 0, .int .u8 0, .int .u8 0, .int .u8 0, .int .u8 0, .int .u8 0, .int .u8 0, .int .u8 0, .int .u8 0, .int .u8 0, .int .u8 0, .int .u8 0, .int .u8 0, .int .u8 0, .int .u8 0, .int .u8 0, .int .u8 0, .int .u8 0, .int .u8 0, .int .u8 0, .int .u8 0, .int .u8 0, .int .u8 0, .int .u8 0, .int .u8 0, .int .u8 0, .int .u8 0, .int .u8 0, .int .u8 0, .int .u8 0, .int .u8 0, .int .u8 0, .int .u8 0, .int .u8 0, .int .u8 0, .int .u8 0, .int .u8 0, .int .u8 0, .int .u8 0, .int .u8 0, .int .u8 0, .int .u8 0, .int .u8 0, .int .u8 0, .int .u8 0, .int .u8 0, .int .u8 0, .int .u8 0, .int .u8 0, .int .u8 0, .int .u8 0, .int .u8 0, .int .u8 0, .int .u8 0, .int .u8 0, .int .u8 0, .int .u8 0, .int .u8 0, .int .u8 0, .int .u8 0, .int .u8 0, .int .u8 0, .int .u8 0, .int .u8 0, .int .u8 0, .int .u8 0, .int .u8 0, .int .u8 0, .int .u8 0, .int .u8 0, .int .u8 0, .int .u8 0, .int .u8 0, .int .u8 0, .int .u8 0, .int .u8 0, .int .u8 0, .int .u8 0, .int .u8 0, .int .u8 0, .int .u8 0, .int .u8 0, .int .u8 0, .int .u8 0, .int .u8 0, .int .u8 0, .int .u8 0, .int .u8 0, .int .u8 0, .int .u8 0, .int .u8 0, .int .u8 0, .int .u8 0, .int .u8 0, .int .u8 0, .int .u8 0, .int .u8 0, .int .u8 0, .int .u8 0, .int .u8 0, .int .u8 0, .int .u8 0, .int .u8 0, .int .u8 0, .int .u8 0, .int .u8 0, .int .u8 0, .int .u8 0, .int .u8 0, .int .u8 0, .int .u8 0, .int .u8 0, .int .u8 0, .int .u8 0, .int .u8 0, .int .u8 0, .int .u8 0, .int .u8 0, .int .u8 0, .int .u8 0, .int .u8 0, .int .u8 0, .int .u8 0, .int .u8 0, .int .u8 0, .int .u8 0, .int .u8 0, .int .u8 0, .int .u8 0, .int .u8 0, .int .u8 0, .int .u8 0, .int .u8 0, .int .u8 0, .int .u8 0, .int .u8 0, .int .u8 0, .int .u8 0, .int .u8 0, .int .u8 0, .int .u8 0, .int .u8 0, .int .u8 0, .int .u8 0, .int .u8 0, .int .u8 0, .int .u8 0, .int .u8 0, .int .u8 0, .int .u8 0, .int .u8 0, .int .u8 0, .int .u8 0, .int .u8 0, .int .u8 0, .int .u8 0, .int .u8 0, .int .u8 0, .int .u8 0, .int .u8 0, .int .u8 0, .int .u8 0, .int .u8 0, .int .u8 0, .int .u8 0, .int .u8 0, .int .u8 0, .int .u8 0, .int .u8 0, .int .u8 0, .int .u8 0, .int .u8 0, .int .u8 0, .int .u8 0, .int .u8 0, .int .u8 0, .int .u8 0, .int .u8 0, .int .u8 0, .int .u8 0, .int .u8 0, .int .u8 0, .int .u8 0, .int .u8 0, .int .u8 0, .int .u8 0, .int .u8 0, .int .u8 0, .int .u8 0, .int .u8 0, .int .u8 0, .int .u8 0, .int .u8 0, .int .u8 0, .int .u8 0, .int .u8 0, .int .u8 0, .int .u8 0, .int .u8 0, .int .u8 0, .int .u8 0, .int .u8 0, .int .u8 0, .int .u8 0, .int .u8 0, .int .u8 0, .int .u8 0, .int .u8 0, .int .u8 0, .int .u8 0, .int .u8 0, .int .u8 0, .int .u8 0, .int .u8 0, .int .u8 0, .int .u8 0, .int .u8 0, .int .u8 0, .int .u8 0, .int .u8 0, .int .u8 0, .int .u8 0, .int .u8 0, .int .u8 0, .int .u8 0, .int .u8 0, .int .u8 0, .int .u8 0, .int .u8 0, .int .u8 0, .int .u8 0, .int .u8 0, .int .u8 0, .int .u8 0, .int .u8 0, .int .u8 0, .int .u8 0, .int .u8 0, .int .u8 0, .int .u8 0, .int .u8 0, .int .u8 0, .int .u8 0, .int .u8 0], none⟩),
  (101, ⟨.struct [(5, 0), (5, 1)], 2, 2, [.int .u8 0, .int .u8 0], some (.st (.pair (.int .u8) (.int .u8)))⟩),
  (102, ⟨.struct [(5, 0), (5, 1)], 2, 2, [.int .u8 0, .int .u8 0], some (.st (.pair (.int .u8) (.int .u8)))⟩),
  (103, ⟨.array 16 102, 32, 32, [.int .u8 0, .int .u8 0, .int .u8 0, .int .u8 0, .int .u8 0, .int .u8 0, .int .u8 0, .int .u8 0, .int .u8 0, .int .u8 0, .int .u8 0, .int .u8 0, .int .u8 0, .int .u8 0, .int .u8 0, .int .u8 0, .int .u8 0, .int .u8 0, .int .u8 0, .int .u8 0, .int .u8 0, .int .u8 0, .int .u8 0, .int .u8 0, .int .u8 0, .int .u8 0, .int .u8 0, .int .u8 0, .int .u8 0, .int .u8 0, .int .u8 0, .int .u8 0], some (.st (.pair (.pair (.int .u8) (.int .u8)) (.pair (.pair (.int .u8) (.int .u8)) (.pair (.pair (.int .u8) (.int .u8)) (.pair (.pair (.int .u8) (.int .u8)) (.pair (.pair (.int .u8) (.int .u8)) (.pair (.pair (.int .u8) (.int .u8)) (.pair (.pair (.int .u8) (.int .u8)) (.pair (.pair (.int .u8) (.int .u8)) (.pair (.pair (.int .u8) (.int .u8)) (.pair (.pair (.int .u8) (.int .u8)) (.pair (.pair (.int .u8) (.int .u8)) (.pair (.pair (.int .u8) (.int .u8)) (.pair (.pair (.int .u8) (.int .u8)) (.pair (.pair (.int .u8) (.int .u8)) (.pair (.pair (.int .u8) (.int .u8)) (.pair (.int .u8) (.int .u8))))))))))))))))))⟩),
  (104, ⟨.sc, 1, 8, [.nilf], none⟩),
  (105, ⟨.sc, 1, 8, [.nilf], none⟩),
  (106, ⟨.sc, 1, 8, [.nilf], none⟩),
  (114, ⟨.sc, 1, 8, [.nilf], none⟩)]
end Go.Proofs
namespace Go.Proofs.R5
open Go Go.AE
theorem tabOk : TabOk Tryd.prog Tryd.tab := tabOk_of_check (by kernel_rfl)
theorem mixed : Tryd.prog.follows .mixedOrders = true := Checked.mixed Tryd.checked
end Go.Proofs.R5
namespace Go.Proofs
open Go.Shelf
def Tryd.lays212_ren : Go.Shelf.Ren := ⟨fun | 212 => 50 | 263 => 61 | 264 => 62 | n => n, fun | 46 => 66 | 51 => 87 | 146 => 91 | 53 => 39 | 148 => 93 | n => n, fun | n => n⟩
theorem Tryd.lays212 : Go.Proofs.Lays.n212 Tryd.prog Tryd.lays212_ren := {
  mixed := by kernel_rfl
  f212 := Tryd.func50.trans (congrArg some (by kernel_rfl))
  f263 := Tryd.func61.trans (congrArg some (by kernel_rfl))
  f264 := Tryd.func62.trans (congrArg some (by kernel_rfl))
  t46 := Tryd.underlying66
  a46 := Tryd.isAgg66
  z46 := Tryd.sizeOf66
  v46 := Tryd.zeroValue66
  t51 := Tryd.underlying87
  a51 := Tryd.isAgg87
  z51 := Tryd.sizeOf87
  v51 := Tryd.zeroValue87
  t53 := Tryd.underlying39
  a53 := Tryd.isAgg39
  z53 := Tryd.sizeOf39
  v53 := Tryd.zeroValue39
  t146 := Tryd.underlying91
  a146 := Tryd.isAgg91
  z146 := Tryd.sizeOf91
  v146 := Tryd.zeroValue91
  t148 := Tryd.underlying93
  a148 := Tryd.isAgg93
  z148 := Tryd.sizeOf93
  v148 := Tryd.zeroValue93 }
open Go.RowKit Go.Lib in

theorem Tryd.bits_Mul (x y : Nat) (hx : x < 18446744073709551616) (hy : y < 18446744073709551616) (w : World) :
    Calls Tryd.prog 50 #[.int .u64 x, .int .u64 y] w fun e w' => e = .returned (.tuple #[.int .u64 ((x * y / 18446744073709551616 : Nat) : Int), .int .u64 ((x * y % 18446744073709551616 : Nat) : Int)]) ∧ w' = w := Any.bits_Mul Tryd.lays212 x y hx hy w
def Tryd.lays105_ren : Go.Shelf.Ren := ⟨fun | 105 => 32 | 212 => 50 | 99 => 51 | 165 => 52 | 166 => 53 | 170 => 54 | 169 => 55 | 263 => 61 | 264 => 62 | 206 => 63 | 240 => 64 | 241 => 65 | 276 => 69 | 277 => 70 | n => n, fun | 9 => 9 | 3 => 3 | 4 => 4 | 20 => 20 | 0 => 0 | 46 => 66 | 109 => 71 | 5 => 5 | 72 => 76 | 76 => 80 | 51 => 87 | 146 => 91 | 53 => 39 | 148 => 93 | 70 => 74 | 37 => 38 | 75 => 79 | 127 => 95 | 164 => 97 | 80 => 82 | n => n, fun | n => n⟩
theorem Tryd.lays105 : Go.Proofs.Lays.n105 Tryd.prog Tryd.lays105_ren := {
  mixed := by kernel_rfl
  f99 := Tryd.func51.trans (congrArg some (by kernel_rfl))
  f105 := Tryd.func32.trans (congrArg some (by kernel_rfl))
  f165 := Tryd.func52.trans (congrArg some (by kernel_rfl))
  f166 := Tryd.func53.trans (congrArg some (by kernel_rfl))
  f169 := Tryd.func55.trans (congrArg some (by kernel_rfl))
  f170 := Tryd.func54.trans (congrArg some (by kernel_rfl))
  f206 := Tryd.func63.trans (congrArg some (by kernel_rfl))
  f212 := Tryd.func50.trans (congrArg some (by kernel_rfl))
  f240 := Tryd.func64.trans (congrArg some (by kernel_rfl))
  f241 := Tryd.func65.trans (congrArg some (by kernel_rfl))
  f263 := Tryd.func61.trans (congrArg some (by kernel_rfl))
  f264 := Tryd.func62.trans (congrArg some (by kernel_rfl))
  f276 := Tryd.func69.trans (congrArg some (by kernel_rfl))
  f277 := Tryd.func70.trans (congrArg some (by kernel_rfl))
  t0 := Tryd.underlying0
  a0 := Tryd.isAgg0
  z0 := Tryd.sizeOf0
  v0 := Tryd.zeroValue0
  t3 := Tryd.underlying3
  a3 := Tryd.isAgg3
  z3 := Tryd.sizeOf3
  v3 := Tryd.zeroValue3
  t4 := Tryd.underlying4
  a4 := Tryd.isAgg4
  z4 := Tryd.sizeOf4
  v4 := Tryd.zeroValue4
  t5 := Tryd.underlying5
  a5 := Tryd.isAgg5
  z5 := Tryd.sizeOf5
  v5 := Tryd.zeroValue5
  t9 := Tryd.underlying9
  a9 := Tryd.isAgg9
  z9 := Tryd.sizeOf9
  v9 := Tryd.zeroValue9
  t20 := Tryd.underlying20
  a20 := Tryd.isAgg20
  z20 := Tryd.sizeOf20
  v20 := Tryd.zeroValue20
  t37 := Tryd.underlying38
  a37 := Tryd.isAgg38
  z37 := Tryd.sizeOf38
  v37 := Tryd.zeroValue38
  t46 := Tryd.underlying66
  a46 := Tryd.isAgg66
  z46 := Tryd.sizeOf66
  v46 := Tryd.zeroValue66
  t51 := Tryd.underlying87
  a51 := Tryd.isAgg87
  z51 := Tryd.sizeOf87
  v51 := Tryd.zeroValue87
  t53 := Tryd.underlying39
  a53 := Tryd.isAgg39
  z53 := Tryd.sizeOf39
  v53 := Tryd.zeroValue39
  t70 := Tryd.underlying74
  a70 := Tryd.isAgg74
  z70 := Tryd.sizeOf74
  v70 := Tryd.zeroValue74
  t72 := Tryd.underlying76
  a72 := Tryd.isAgg76
  z72 := Tryd.sizeOf76
  v72 := Tryd.zeroValue76
  t75 := Tryd.underlying79
  a75 := Tryd.isAgg79
  z75 := Tryd.sizeOf79
  v75 := Tryd.zeroValue79
  t76 := Tryd.underlying80
  a76 := Tryd.isAgg80
  z76 := Tryd.sizeOf80
  v76 := Tryd.zeroValue80
  t109 := Tryd.underlying71
  a109 := Tryd.isAgg71
  z109 := Tryd.sizeOf71
  v109 := Tryd.zeroValue71
  t127 := Tryd.underlying95
  a127 := Tryd.isAgg95
  z127 := Tryd.sizeOf95
  v127 := Tryd.zeroValue95
  t146 := Tryd.underlying91
  a146 := Tryd.isAgg91
  z146 := Tryd.sizeOf91
  v146 := Tryd.zeroValue91
  t148 := Tryd.underlying93
  a148 := Tryd.isAgg93
  z148 := Tryd.sizeOf93
  v148 := Tryd.zeroValue93
  t164 := Tryd.underlying97
  a164 := Tryd.isAgg97
  z164 := Tryd.sizeOf97
  v164 := Tryd.zeroValue97 }
theorem Tryd.Builder_Extra_105 : Builder.Extra Tryd.prog Tryd.lays105_ren := {
  sizeBuilder := by kernel_rfl
  liesBuilder := by kernel_rfl
  t5 := Tryd.underlying5
  a5 := Tryd.isAgg5
  z5 := Tryd.sizeOf5
  v5 := Tryd.zeroValue5
  infoByte := by kernel_rfl
  cellsByte := by kernel_rfl
  sizeByte := by kernel_rfl
  neB5 := by decide }
open Go.RowKit Go.Lib in

theorem Tryd.strings_Repeat (s : ByteArray) (c : Nat) (w : World) (hc : c ≤ 9223372036854775807) (hlen : s.size * c ≤ 140737488355328) :
    Calls Tryd.prog 32 #[.string s, .int .i64 c] w fun e w' => e = .returned (.string ⟨(Lib.repeatL s.data.toList c).toArray⟩) ∧ Below w.heap.size w w' := Any.strings_Repeat Tryd.lays105 Tryd.Builder_Extra_105 s c w hc hlen
end Go.Proofs
namespace Go.Proofs.R5
open Go Go.AE
theorem Fstrings_Repeat_ok : PureOk Tryd.prog 32 Fstrings_Repeat :=
  Fstrings_Repeat_of (entered_of Tryd.func32 (by kernel_rfl) (by decide +kernel)) fun s c w h1 h2 => Tryd.strings_Repeat s c w h1 h2
theorem FBuilder_copyCheck_ok : FuncOk Tryd.prog 64 FBuilder_copyCheck :=
  FBuilder_copyCheck_of (ρ := Tryd.lays105_ren) { Tryd.lays105 with } Tryd.Builder_Extra_105.toX72 rfl (entered_of Tryd.func64 (by kernel_rfl) (by decide +kernel))
theorem FBuilder_String_ok : FuncOk Tryd.prog 55 FBuilder_String :=
  FBuilder_String_of (ρ := Tryd.lays105_ren) { Tryd.lays105 with } Tryd.Builder_Extra_105 rfl (entered_of Tryd.func55 (by kernel_rfl) (by decide +kernel))
theorem FBuilder_StringAgain_ok : FuncOk Tryd.prog 55 FBuilder_StringAgain :=
  FBuilder_StringAgain_of (ρ := Tryd.lays105_ren) { Tryd.lays105 with } Tryd.Builder_Extra_105 rfl (entered_of Tryd.func55 (by kernel_rfl) (by decide +kernel))
end Go.Proofs.R5
namespace Go.Proofs.R5
open Go Go.AE
--@ vector_within
noncomputable def envvector_within : Env := []
theorem envvector_withinOk : EnvOk Tryd.prog envvector_within := EnvOk.nil
noncomputable def bvector_within : Code := Tryd.f35.body.getD .skip
noncomputable def Lvector_within_n0 : Code := codeAt [1, 0] bvector_within
noncomputable def annLvector_within_n0 : Ann := .none
theorem annLvector_within_n0_ok : AnnOk Tryd.prog 12 Lvector_within_n0 annLvector_within_n0 := (annOk_none _ _ _)
abbrev Ivector_within_n0 := (Int) × (Int)
abbrev Yvector_within_n0 := (Bool)
def Svector_within_n0 : Ivector_within_n0 → St := fun (t0, t1) => { env := [(0, AV.int IntKind.i64 t0), (1, AV.int IntKind.i64 t1)], stk := [[]], H := [], blk := 143360 }
def decvector_within_n0 (s : St) : Option Ivector_within_n0 := match s with
  | { env := [(0, AV.int IntKind.i64 t0), (1, AV.int IntKind.i64 t1)], stk := [[]], H := [], blk := 143360 } => some (t0, t1)
  | _ => none
theorem decvector_within_n0_ok (s : St) (x : Ivector_within_n0) (h : decvector_within_n0 s = some x) : s = Svector_within_n0 x := by
  unfold decvector_within_n0 at h
  split at h
  · cases h; rfl
  · cases h
def outvector_within_n0 : Ivector_within_n0 → (Ex → St → Ans) → Yvector_within_n0 → Ans := fun (t0, t1) K => fun t4_y => K (Ex.norm) { env := [(4, AV.bool t4_y)], stk := [[]], H := [], blk := 143360 }
noncomputable def nodevector_within_n0 {β : Type} : Ivector_within_n0 → (Yvector_within_n0 → Option β) → Option β := fun (t0, t1) exit => (bif decide (t0 ≥ (0 : Int)) then (exit (decide (t0 ≤ t1))) else (exit (false)))
noncomputable def nodeDvector_within_n0 (i : Ivector_within_n0) : Option Yvector_within_n0 := nodevector_within_n0 i some
theorem nodevector_within_n0_nat (i : Ivector_within_n0) (k : Yvector_within_n0 → Ans) : nodevector_within_n0 i k = bindO (nodeDvector_within_n0 i) k := by
  obtain ⟨t0, t1⟩ := i
  simp only [nodeDvector_within_n0, nodevector_within_n0, bindO_cond, bindO_assoc, bindO_none, bindO_pure, bindO_elim, bindO_unP]
theorem nodevector_within_n0_ok (i : Ivector_within_n0) (K : Ex → St → Ans) : codeI Tryd.tab envvector_within noHint (codeD Tryd.tab envvector_within noHint 0 64) 70 12 annLvector_within_n0 Lvector_within_n0 (weakP 0 (exk [4] [4] []) K) (Svector_within_n0 i) = nodevector_within_n0 i (outvector_within_n0 i K) := by kernel_rfl
theorem GNvector_within_n0_ok : CSum Tryd.prog 12 Lvector_within_n0 (sumN decvector_within_n0 nodeDvector_within_n0 outvector_within_n0) := csum_node mixed tabOk envvector_withinOk 0 (exk [4] [4] []) annLvector_within_n0_ok decvector_within_n0_ok nodevector_within_n0_ok nodevector_within_n0_nat
noncomputable def Gvector_within_n0 : (Ex → St → Ans) → St → Ans := (sumN decvector_within_n0 nodeDvector_within_n0 outvector_within_n0)
theorem Gvector_within_n0_ok : CSum Tryd.prog 12 Lvector_within_n0 Gvector_within_n0 := GNvector_within_n0_ok
noncomputable def annvector_within : Ann := (.seq .none (.seq (.cut 0 [0, 1] Gvector_within_n0) .none))
theorem annvector_within_ok : AnnOk Tryd.prog 12 bvector_within annvector_within := ⟨(annOk_none _ _ _), ⟨Gvector_within_n0_ok, (annOk_none _ _ _)⟩⟩
abbrev Avector_within := (Int) × (Int)
abbrev Yvector_within := (Bool)
noncomputable def fnvector_within {β : Type} : Avector_within → (Yvector_within → Option β) → Option β := fun (a0, a1) exit => (bindO (nodeDvector_within_n0 (a0, a1)) fun t4 => (exit (t4)))
noncomputable def fnDvector_within (a : Avector_within) : Option Yvector_within := fnvector_within a some
theorem fnvector_within_nat (a : Avector_within) (k : Yvector_within → Ans) : fnvector_within a k = bindO (fnDvector_within a) k := by
  obtain ⟨a0, a1⟩ := a
  simp only [fnDvector_within, fnvector_within, bindO_cond, bindO_assoc, bindO_none, bindO_pure, bindO_elim, bindO_unP]
def argsvector_within : Avector_within → List AV := fun (a0, a1) => [AV.int IntKind.i64 a0, AV.int IntKind.i64 a1]
def decAvector_within (l : List AV) : Option Avector_within := match l with
  | [AV.int IntKind.i64 a0, AV.int IntKind.i64 a1] => some (a0, a1)
  | _ => none
theorem decAvector_within_ok (l : List AV) (a : Avector_within) (h : decAvector_within l = some a) : l = argsvector_within a := by
  unfold decAvector_within at h
  split at h
  · cases h; rfl
  · cases h
def rendvector_within : Avector_within → Yvector_within → AV := fun (a0, a1) => fun r_y => AV.bool r_y
theorem rendvector_within_ok : ∀ (a : Avector_within) (y : Yvector_within), (rendvector_within a y).closed1 = true := by
  rintro ⟨a0, a1⟩ y <;> first | rfl | exact Empty.elim y
theorem fnvector_within_ok (a : Avector_within) : fnE Tryd.tab envvector_within noHint 0 70 35 Tryd.f35.ntmps Tryd.f35.results.toList annvector_within bvector_within (argsvector_within a) [] (fun v _ => some (v, [])) = fnvector_within a (fun y => some (rendvector_within a y, [])) := by kernel_rfl
noncomputable def vFvector_within (a : Avector_within) (K : AV → Ans) : Ans := bindO (fnDvector_within a) fun y => K (rendvector_within a y)
noncomputable def Fvector_within : List AV → (AV → Ans) → Ans := fun l K => bindO (decAvector_within l) fun a => vFvector_within a K
theorem Fvector_within_ok : PureOk Tryd.prog 35 Fvector_within := pure_mkD (hint := noHint) (d := 0) (n := 70) mixed tabOk envvector_withinOk Tryd.func35 (bodySome (by kernel_rfl)) (by decide +kernel) annvector_within_ok decAvector_within_ok fnvector_within_ok fnvector_within_nat rendvector_within_ok
--@ vector_Right
noncomputable def envvector_Right : Env := [(35, .pure Fvector_within)]
theorem envvector_RightOk : EnvOk Tryd.prog envvector_Right := EnvOk.cons Fvector_within_ok (EnvOk.nil)
noncomputable def bvector_Right : Code := Tryd.f21.body.getD .skip
noncomputable def Lvector_Right_n0 : Code := codeAt [1, 0] bvector_Right
noncomputable def annLvector_Right_n0 : Ann := .none
theorem annLvector_Right_n0_ok : AnnOk Tryd.prog 11 Lvector_Right_n0 annLvector_Right_n0 := (annOk_none _ _ _)
abbrev Ivector_Right_n0 := (Int) × (Int)
abbrev Yvector_Right_n0 := (Bool)
def Svector_Right_n0 : Ivector_Right_n0 → St := fun (o0_0, o0_1) => { env := [(1, AV.ptr 0 0)], stk := [[]], H := [AE.Obj.cells [AV.int IntKind.i64 o0_0, AV.int IntKind.i64 o0_1]], blk := 86016 }
def decvector_Right_n0 (s : St) : Option Ivector_Right_n0 := match s with
  | { env := [(1, AV.ptr 0 0)], stk := [[]], H := [AE.Obj.cells [AV.int IntKind.i64 o0_0, AV.int IntKind.i64 o0_1]], blk := 86016 } => some (o0_0, o0_1)
  | _ => none
theorem decvector_Right_n0_ok (s : St) (x : Ivector_Right_n0) (h : decvector_Right_n0 s = some x) : s = Svector_Right_n0 x := by
  unfold decvector_Right_n0 at h
  split at h
  · cases h; rfl
  · cases h
def outvector_Right_n0 : Ivector_Right_n0 → (Ex → St → Ans) → Yvector_Right_n0 → Ans := fun (o0_0, o0_1) K => fun t2_y => K (Ex.norm) { env := [(2, AV.bool t2_y)], stk := [[]], H := [], blk := 86016 }
noncomputable def nodevector_Right_n0 {β : Type} : Ivector_Right_n0 → (Yvector_Right_n0 → Option β) → Option β := fun (o0_0, o0_1) exit => (bindO (fnDvector_within (o0_0, (1125899906842624 : Int))) fun r => (bif r then (bindO (fnDvector_within (o0_1, (1125899906842624 : Int))) fun r_2 => (exit (r_2))) else (exit (false))))
noncomputable def nodeDvector_Right_n0 (i : Ivector_Right_n0) : Option Yvector_Right_n0 := nodevector_Right_n0 i some
theorem nodevector_Right_n0_nat (i : Ivector_Right_n0) (k : Yvector_Right_n0 → Ans) : nodevector_Right_n0 i k = bindO (nodeDvector_Right_n0 i) k := by
  obtain ⟨o0_0, o0_1⟩ := i
  simp only [nodeDvector_Right_n0, nodevector_Right_n0, bindO_cond, bindO_assoc, bindO_none, bindO_pure, bindO_elim, bindO_unP]
theorem nodevector_Right_n0_ok (i : Ivector_Right_n0) (K : Ex → St → Ans) : codeI Tryd.tab envvector_Right noHint (codeD Tryd.tab envvector_Right noHint 0 64) 70 11 annLvector_Right_n0 Lvector_Right_n0 (weakP 0 (exk [2] [2] []) K) (Svector_Right_n0 i) = nodevector_Right_n0 i (outvector_Right_n0 i K) := by kernel_rfl
theorem GNvector_Right_n0_ok : CSum Tryd.prog 11 Lvector_Right_n0 (sumN decvector_Right_n0 nodeDvector_Right_n0 outvector_Right_n0) := csum_node mixed tabOk envvector_RightOk 0 (exk [2] [2] []) annLvector_Right_n0_ok decvector_Right_n0_ok nodevector_Right_n0_ok nodevector_Right_n0_nat
noncomputable def Gvector_Right_n0 : (Ex → St → Ans) → St → Ans := (sumN decvector_Right_n0 nodeDvector_Right_n0 outvector_Right_n0)
theorem Gvector_Right_n0_ok : CSum Tryd.prog 11 Lvector_Right_n0 Gvector_Right_n0 := GNvector_Right_n0_ok
noncomputable def annvector_Right : Ann := (.seq .none (.seq (.cut 0 [1] Gvector_Right_n0) .none))
theorem annvector_Right_ok : AnnOk Tryd.prog 11 bvector_Right annvector_Right := ⟨(annOk_none _ _ _), ⟨Gvector_Right_n0_ok, (annOk_none _ _ _)⟩⟩
abbrev Avector_Right := (Int) × (Int)
abbrev Yvector_Right := (Bool)
noncomputable def fnvector_Right {β : Type} : Avector_Right → (Yvector_Right → Option β) → Option β := fun (a0_0, a0_1) exit => (bindO (nodeDvector_Right_n0 (a0_0, a0_1)) fun t2 => (exit (t2)))
noncomputable def fnDvector_Right (a : Avector_Right) : Option Yvector_Right := fnvector_Right a some
theorem fnvector_Right_nat (a : Avector_Right) (k : Yvector_Right → Ans) : fnvector_Right a k = bindO (fnDvector_Right a) k := by
  obtain ⟨a0_0, a0_1⟩ := a
  simp only [fnDvector_Right, fnvector_Right, bindO_cond, bindO_assoc, bindO_none, bindO_pure, bindO_elim, bindO_unP]
def argsvector_Right : Avector_Right → List AV := fun (a0_0, a0_1) => [AV.agg [AV.int IntKind.i64 a0_0, AV.int IntKind.i64 a0_1]]
def decAvector_Right (l : List AV) : Option Avector_Right := match l with
  | [AV.agg [AV.int IntKind.i64 a0_0, AV.int IntKind.i64 a0_1]] => some (a0_0, a0_1)
  | _ => none
theorem decAvector_Right_ok (l : List AV) (a : Avector_Right) (h : decAvector_Right l = some a) : l = argsvector_Right a := by
  unfold decAvector_Right at h
  split at h
  · cases h; rfl
  · cases h
def rendvector_Right : Avector_Right → Yvector_Right → AV := fun (a0_0, a0_1) => fun r_y => AV.bool r_y
theorem rendvector_Right_ok : ∀ (a : Avector_Right) (y : Yvector_Right), (rendvector_Right a y).closed1 = true := by
  rintro ⟨a0_0, a0_1⟩ y <;> first | rfl | exact Empty.elim y
theorem fnvector_Right_ok (a : Avector_Right) : fnE Tryd.tab envvector_Right noHint 0 70 21 Tryd.f21.ntmps Tryd.f21.results.toList annvector_Right bvector_Right (argsvector_Right a) [] (fun v _ => some (v, [])) = fnvector_Right a (fun y => some (rendvector_Right a y, [])) := by kernel_rfl
noncomputable def vFvector_Right (a : Avector_Right) (K : AV → Ans) : Ans := bindO (fnDvector_Right a) fun y => K (rendvector_Right a y)
noncomputable def Fvector_Right : List AV → (AV → Ans) → Ans := fun l K => bindO (decAvector_Right l) fun a => vFvector_Right a K
theorem Fvector_Right_ok : PureOk Tryd.prog 21 Fvector_Right := pure_mkD (hint := noHint) (d := 0) (n := 70) mixed tabOk envvector_RightOk Tryd.func21 (bodySome (by kernel_rfl)) (by decide +kernel) annvector_Right_ok decAvector_Right_ok fnvector_Right_ok fnvector_Right_nat rendvector_Right_ok
--@ vector_Covers
noncomputable def envvector_Covers : Env := []
theorem envvector_CoversOk : EnvOk Tryd.prog envvector_Covers := EnvOk.nil
noncomputable def bvector_Covers : Code := Tryd.f36.body.getD .skip
noncomputable def Lvector_Covers_n0 : Code := codeAt [1, 0] bvector_Covers
noncomputable def annLvector_Covers_n0 : Ann := .none
theorem annLvector_Covers_n0_ok : AnnOk Tryd.prog 17 Lvector_Covers_n0 annLvector_Covers_n0 := (annOk_none _ _ _)
abbrev Ivector_Covers_n0 := (Int) × (Int) × (Int) × (Int)
abbrev Yvector_Covers_n0 := (Bool)
def Svector_Covers_n0 : Ivector_Covers_n0 → St := fun (o0_0, o0_1, o1_0, o1_1) => { env := [(2, AV.ptr 0 0), (3, AV.ptr 1 0)], stk := [[]], H := [AE.Obj.cells [AV.int IntKind.i64 o0_0, AV.int IntKind.i64 o0_1], AE.Obj.cells [AV.int IntKind.i64 o1_0, AV.int IntKind.i64 o1_1]], blk := 147456 }
def decvector_Covers_n0 (s : St) : Option Ivector_Covers_n0 := match s with
  | { env := [(2, AV.ptr 0 0), (3, AV.ptr 1 0)], stk := [[]], H := [AE.Obj.cells [AV.int IntKind.i64 o0_0, AV.int IntKind.i64 o0_1], AE.Obj.cells [AV.int IntKind.i64 o1_0, AV.int IntKind.i64 o1_1]], blk := 147456 } => some (o0_0, o0_1, o1_0, o1_1)
  | _ => none
theorem decvector_Covers_n0_ok (s : St) (x : Ivector_Covers_n0) (h : decvector_Covers_n0 s = some x) : s = Svector_Covers_n0 x := by
  unfold decvector_Covers_n0 at h
  split at h
  · cases h; rfl
  · cases h
def outvector_Covers_n0 : Ivector_Covers_n0 → (Ex → St → Ans) → Yvector_Covers_n0 → Ans := fun (o0_0, o0_1, o1_0, o1_1) K => fun t4_y => K (Ex.norm) { env := [(4, AV.bool t4_y)], stk := [[]], H := [], blk := 147456 }
noncomputable def nodevector_Covers_n0 {β : Type} : Ivector_Covers_n0 → (Yvector_Covers_n0 → Option β) → Option β := fun (o0_0, o0_1, o1_0, o1_1) exit => (bif decide (o0_0 ≥ o1_0) then (exit (decide (o0_1 ≥ o1_1))) else (exit (false)))
noncomputable def nodeDvector_Covers_n0 (i : Ivector_Covers_n0) : Option Yvector_Covers_n0 := nodevector_Covers_n0 i some
theorem nodevector_Covers_n0_nat (i : Ivector_Covers_n0) (k : Yvector_Covers_n0 → Ans) : nodevector_Covers_n0 i k = bindO (nodeDvector_Covers_n0 i) k := by
  obtain ⟨o0_0, o0_1, o1_0, o1_1⟩ := i
  simp only [nodeDvector_Covers_n0, nodevector_Covers_n0, bindO_cond, bindO_assoc, bindO_none, bindO_pure, bindO_elim, bindO_unP]
theorem nodevector_Covers_n0_ok (i : Ivector_Covers_n0) (K : Ex → St → Ans) : codeI Tryd.tab envvector_Covers noHint (codeD Tryd.tab envvector_Covers noHint 0 64) 70 17 annLvector_Covers_n0 Lvector_Covers_n0 (weakP 0 (exk [4] [4] []) K) (Svector_Covers_n0 i) = nodevector_Covers_n0 i (outvector_Covers_n0 i K) := by kernel_rfl
theorem GNvector_Covers_n0_ok : CSum Tryd.prog 17 Lvector_Covers_n0 (sumN decvector_Covers_n0 nodeDvector_Covers_n0 outvector_Covers_n0) := csum_node mixed tabOk envvector_CoversOk 0 (exk [4] [4] []) annLvector_Covers_n0_ok decvector_Covers_n0_ok nodevector_Covers_n0_ok nodevector_Covers_n0_nat
noncomputable def Gvector_Covers_n0 : (Ex → St → Ans) → St → Ans := (sumN decvector_Covers_n0 nodeDvector_Covers_n0 outvector_Covers_n0)
theorem Gvector_Covers_n0_ok : CSum Tryd.prog 17 Lvector_Covers_n0 Gvector_Covers_n0 := GNvector_Covers_n0_ok
noncomputable def annvector_Covers : Ann := (.seq .none (.seq (.cut 0 [2, 3] Gvector_Covers_n0) .none))
theorem annvector_Covers_ok : AnnOk Tryd.prog 17 bvector_Covers annvector_Covers := ⟨(annOk_none _ _ _), ⟨Gvector_Covers_n0_ok, (annOk_none _ _ _)⟩⟩
abbrev Avector_Covers := (Int) × (Int) × (Int) × (Int)
abbrev Yvector_Covers := (Bool)
noncomputable def fnvector_Covers {β : Type} : Avector_Covers → (Yvector_Covers → Option β) → Option β := fun (a0_0, a0_1, a1_0, a1_1) exit => (bindO (nodeDvector_Covers_n0 (a0_0, a0_1, a1_0, a1_1)) fun t4 => (exit (t4)))
noncomputable def fnDvector_Covers (a : Avector_Covers) : Option Yvector_Covers := fnvector_Covers a some
theorem fnvector_Covers_nat (a : Avector_Covers) (k : Yvector_Covers → Ans) : fnvector_Covers a k = bindO (fnDvector_Covers a) k := by
  obtain ⟨a0_0, a0_1, a1_0, a1_1⟩ := a
  simp only [fnDvector_Covers, fnvector_Covers, bindO_cond, bindO_assoc, bindO_none, bindO_pure, bindO_elim, bindO_unP]
def argsvector_Covers : Avector_Covers → List AV := fun (a0_0, a0_1, a1_0, a1_1) => [AV.agg [AV.int IntKind.i64 a0_0, AV.int IntKind.i64 a0_1], AV.agg [AV.int IntKind.i64 a1_0, AV.int IntKind.i64 a1_1]]
def decAvector_Covers (l : List AV) : Option Avector_Covers := match l with
  | [AV.agg [AV.int IntKind.i64 a0_0, AV.int IntKind.i64 a0_1], AV.agg [AV.int IntKind.i64 a1_0, AV.int IntKind.i64 a1_1]] => some (a0_0, a0_1, a1_0, a1_1)
  | _ => none
theorem decAvector_Covers_ok (l : List AV) (a : Avector_Covers) (h : decAvector_Covers l = some a) : l = argsvector_Covers a := by
  unfold decAvector_Covers at h
  split at h
  · cases h; rfl
  · cases h
def rendvector_Covers : Avector_Covers → Yvector_Covers → AV := fun (a0_0, a0_1, a1_0, a1_1) => fun r_y => AV.bool r_y
theorem rendvector_Covers_ok : ∀ (a : Avector_Covers) (y : Yvector_Covers), (rendvector_Covers a y).closed1 = true := by
  rintro ⟨a0_0, a0_1, a1_0, a1_1⟩ y <;> first | rfl | exact Empty.elim y
theorem fnvector_Covers_ok (a : Avector_Covers) : fnE Tryd.tab envvector_Covers noHint 0 70 36 Tryd.f36.ntmps Tryd.f36.results.toList annvector_Covers bvector_Covers (argsvector_Covers a) [] (fun v _ => some (v, [])) = fnvector_Covers a (fun y => some (rendvector_Covers a y, [])) := by kernel_rfl
noncomputable def vFvector_Covers (a : Avector_Covers) (K : AV → Ans) : Ans := bindO (fnDvector_Covers a) fun y => K (rendvector_Covers a y)
noncomputable def Fvector_Covers : List AV → (AV → Ans) → Ans := fun l K => bindO (decAvector_Covers l) fun a => vFvector_Covers a K
theorem Fvector_Covers_ok : PureOk Tryd.prog 36 Fvector_Covers := pure_mkD (hint := noHint) (d := 0) (n := 70) mixed tabOk envvector_CoversOk Tryd.func36 (bodySome (by kernel_rfl)) (by decide +kernel) annvector_Covers_ok decAvector_Covers_ok fnvector_Covers_ok fnvector_Covers_nat rendvector_Covers_ok
--@ vector_Compare
noncomputable def envvector_Compare : Env := [(36, .pure Fvector_Covers)]
theorem envvector_CompareOk : EnvOk Tryd.prog envvector_Compare := EnvOk.cons Fvector_Covers_ok (EnvOk.nil)
noncomputable def bvector_Compare : Code := Tryd.f22.body.getD .skip
noncomputable def Lvector_Compare_n1 : Code := codeAt [1, 1, 0, 0, 0] bvector_Compare
noncomputable def annLvector_Compare_n1 : Ann := .none
theorem annLvector_Compare_n1_ok : AnnOk Tryd.prog 22 Lvector_Compare_n1 annLvector_Compare_n1 := (annOk_none _ _ _)
abbrev Ivector_Compare_n1 := (Bool) × (Bool)
abbrev Yvector_Compare_n1 := (Bool)
def Svector_Compare_n1 : Ivector_Compare_n1 → St := fun (t5, t6) => { env := [(5, AV.bool t5), (6, AV.bool t6)], stk := [[]], H := [], blk := 90112 }
def decvector_Compare_n1 (s : St) : Option Ivector_Compare_n1 := match s with
  | { env := [(5, AV.bool t5), (6, AV.bool t6)], stk := [[]], H := [], blk := 90112 } => some (t5, t6)
  | _ => none
theorem decvector_Compare_n1_ok (s : St) (x : Ivector_Compare_n1) (h : decvector_Compare_n1 s = some x) : s = Svector_Compare_n1 x := by
  unfold decvector_Compare_n1 at h
  split at h
  · cases h; rfl
  · cases h
def outvector_Compare_n1 : Ivector_Compare_n1 → (Ex → St → Ans) → Yvector_Compare_n1 → Ans := fun (t5, t6) K => fun t13_y => K (Ex.norm) { env := [(5, AV.bool t5), (6, AV.bool t6), (13, AV.bool t13_y)], stk := [[]], H := [], blk := 90112 }
noncomputable def nodevector_Compare_n1 {β : Type} : Ivector_Compare_n1 → (Yvector_Compare_n1 → Option β) → Option β := fun (t5, t6) exit => (bif t5 then (exit (t6)) else (exit (false)))
noncomputable def nodeDvector_Compare_n1 (i : Ivector_Compare_n1) : Option Yvector_Compare_n1 := nodevector_Compare_n1 i some
theorem nodevector_Compare_n1_nat (i : Ivector_Compare_n1) (k : Yvector_Compare_n1 → Ans) : nodevector_Compare_n1 i k = bindO (nodeDvector_Compare_n1 i) k := by
  obtain ⟨t5, t6⟩ := i
  simp only [nodeDvector_Compare_n1, nodevector_Compare_n1, bindO_cond, bindO_assoc, bindO_none, bindO_pure, bindO_elim, bindO_unP]
theorem nodevector_Compare_n1_ok (i : Ivector_Compare_n1) (K : Ex → St → Ans) : codeI Tryd.tab envvector_Compare noHint (codeD Tryd.tab envvector_Compare noHint 0 64) 70 22 annLvector_Compare_n1 Lvector_Compare_n1 (weakP 0 (exk [5, 6, 13] [4] []) K) (Svector_Compare_n1 i) = nodevector_Compare_n1 i (outvector_Compare_n1 i K) := by kernel_rfl
theorem GNvector_Compare_n1_ok : CSum Tryd.prog 22 Lvector_Compare_n1 (sumN decvector_Compare_n1 nodeDvector_Compare_n1 outvector_Compare_n1) := csum_node mixed tabOk envvector_CompareOk 0 (exk [5, 6, 13] [4] []) annLvector_Compare_n1_ok decvector_Compare_n1_ok nodevector_Compare_n1_ok nodevector_Compare_n1_nat
noncomputable def Gvector_Compare_n1 : (Ex → St → Ans) → St → Ans := (sumN decvector_Compare_n1 nodeDvector_Compare_n1 outvector_Compare_n1)
theorem Gvector_Compare_n1_ok : CSum Tryd.prog 22 Lvector_Compare_n1 Gvector_Compare_n1 := GNvector_Compare_n1_ok
noncomputable def Lvector_Compare_n0 : Code := codeAt [1, 1, 0] bvector_Compare
noncomputable def annLvector_Compare_n0 : Ann := (.block (.seq (.cut 0 [5, 6] Gvector_Compare_n1) .none))
theorem annLvector_Compare_n0_ok : AnnOk Tryd.prog 22 Lvector_Compare_n0 annLvector_Compare_n0 := ⟨Gvector_Compare_n1_ok, (annOk_none _ _ _)⟩
abbrev Ivector_Compare_n0 := (Bool) × (Bool)
abbrev Yvector_Compare_n0 := ((Int)) ⊕ (Unit)
def Svector_Compare_n0 : Ivector_Compare_n0 → St := fun (t5, t6) => { env := [(5, AV.bool t5), (6, AV.bool t6)], stk := [[]], H := [], blk := 90112 }
def decvector_Compare_n0 (s : St) : Option Ivector_Compare_n0 := match s with
  | { env := [(5, AV.bool t5), (6, AV.bool t6)], stk := [[]], H := [], blk := 90112 } => some (t5, t6)
  | _ => none
theorem decvector_Compare_n0_ok (s : St) (x : Ivector_Compare_n0) (h : decvector_Compare_n0 s = some x) : s = Svector_Compare_n0 x := by
  unfold decvector_Compare_n0 at h
  split at h
  · cases h; rfl
  · cases h
def outvector_Compare_n0 : Ivector_Compare_n0 → (Ex → St → Ans) → Yvector_Compare_n0 → Ans := fun (t5, t6) K => (Sum.elim (fun t4_y => K (Ex.ret) { env := [(4, AV.int IntKind.i64 t4_y)], stk := [[]], H := [], blk := 90112 }) (fun _ => K (Ex.norm) { env := [], stk := [[]], H := [], blk := 90112 }))
noncomputable def nodevector_Compare_n0 {β : Type} : Ivector_Compare_n0 → (Yvector_Compare_n0 → Option β) → Option β := fun (t5, t6) exit => (bindO (nodeDvector_Compare_n1 (t5, t6)) fun t13 => (bif t13 then (exit (Sum.inl ((0 : Int)))) else (bif t5 then (exit (Sum.inl ((1 : Int)))) else (bif t6 then (exit (Sum.inl ((2 : Int)))) else (exit (Sum.inr ()))))))
noncomputable def nodeDvector_Compare_n0 (i : Ivector_Compare_n0) : Option Yvector_Compare_n0 := nodevector_Compare_n0 i some
theorem nodevector_Compare_n0_nat (i : Ivector_Compare_n0) (k : Yvector_Compare_n0 → Ans) : nodevector_Compare_n0 i k = bindO (nodeDvector_Compare_n0 i) k := by
  obtain ⟨t5, t6⟩ := i
  simp only [nodeDvector_Compare_n0, nodevector_Compare_n0, bindO_cond, bindO_assoc, bindO_none, bindO_pure, bindO_elim, bindO_unP]
theorem nodevector_Compare_n0_ok (i : Ivector_Compare_n0) (K : Ex → St → Ans) : codeI Tryd.tab envvector_Compare noHint (codeD Tryd.tab envvector_Compare noHint 0 64) 70 22 annLvector_Compare_n0 Lvector_Compare_n0 (weakP 0 (exk [] [4] []) K) (Svector_Compare_n0 i) = nodevector_Compare_n0 i (outvector_Compare_n0 i K) := by kernel_rfl
theorem GNvector_Compare_n0_ok : CSum Tryd.prog 22 Lvector_Compare_n0 (sumN decvector_Compare_n0 nodeDvector_Compare_n0 outvector_Compare_n0) := csum_node mixed tabOk envvector_CompareOk 0 (exk [] [4] []) annLvector_Compare_n0_ok decvector_Compare_n0_ok nodevector_Compare_n0_ok nodevector_Compare_n0_nat
noncomputable def Gvector_Compare_n0 : (Ex → St → Ans) → St → Ans := (sumN decvector_Compare_n0 nodeDvector_Compare_n0 outvector_Compare_n0)
theorem Gvector_Compare_n0_ok : CSum Tryd.prog 22 Lvector_Compare_n0 Gvector_Compare_n0 := GNvector_Compare_n0_ok
noncomputable def annvector_Compare : Ann := (.seq .none (.seq .none (.seq (.cut 0 [5, 6] Gvector_Compare_n0) .none)))
theorem annvector_Compare_ok : AnnOk Tryd.prog 22 bvector_Compare annvector_Compare := ⟨(annOk_none _ _ _), ⟨(annOk_none _ _ _), ⟨Gvector_Compare_n0_ok, (annOk_none _ _ _)⟩⟩⟩
abbrev Avector_Compare := (Int) × (Int) × (Int) × (Int)
abbrev Yvector_Compare := (Int)
noncomputable def fnvector_Compare {β : Type} : Avector_Compare → (Yvector_Compare → Option β) → Option β := fun (a0_0, a0_1, a1_0, a1_1) exit => (bindO (fnDvector_Covers (a0_0, a0_1, a1_0, a1_1)) fun r => (bindO (fnDvector_Covers (a1_0, a1_1, a0_0, a0_1)) fun r_2 => (bindO (nodeDvector_Compare_n0 (r, r_2)) (Sum.elim (fun t4 => (exit (t4))) (fun _ => (exit ((3 : Int))))))))
noncomputable def fnDvector_Compare (a : Avector_Compare) : Option Yvector_Compare := fnvector_Compare a some
theorem fnvector_Compare_nat (a : Avector_Compare) (k : Yvector_Compare → Ans) : fnvector_Compare a k = bindO (fnDvector_Compare a) k := by
  obtain ⟨a0_0, a0_1, a1_0, a1_1⟩ := a
  simp only [fnDvector_Compare, fnvector_Compare, bindO_cond, bindO_assoc, bindO_none, bindO_pure, bindO_elim, bindO_unP]
def argsvector_Compare : Avector_Compare → List AV := fun (a0_0, a0_1, a1_0, a1_1) => [AV.agg [AV.int IntKind.i64 a0_0, AV.int IntKind.i64 a0_1], AV.agg [AV.int IntKind.i64 a1_0, AV.int IntKind.i64 a1_1]]
def decAvector_Compare (l : List AV) : Option Avector_Compare := match l with
  | [AV.agg [AV.int IntKind.i64 a0_0, AV.int IntKind.i64 a0_1], AV.agg [AV.int IntKind.i64 a1_0, AV.int IntKind.i64 a1_1]] => some (a0_0, a0_1, a1_0, a1_1)
  | _ => none
theorem decAvector_Compare_ok (l : List AV) (a : Avector_Compare) (h : decAvector_Compare l = some a) : l = argsvector_Compare a := by
  unfold decAvector_Compare at h
  split at h
  · cases h; rfl
  · cases h
def rendvector_Compare : Avector_Compare → Yvector_Compare → AV := fun (a0_0, a0_1, a1_0, a1_1) => fun r_y => AV.int IntKind.i64 r_y
theorem rendvector_Compare_ok : ∀ (a : Avector_Compare) (y : Yvector_Compare), (rendvector_Compare a y).closed1 = true := by
  rintro ⟨a0_0, a0_1, a1_0, a1_1⟩ y <;> first | rfl | exact Empty.elim y
theorem fnvector_Compare_ok (a : Avector_Compare) : fnE Tryd.tab envvector_Compare noHint 0 70 22 Tryd.f22.ntmps Tryd.f22.results.toList annvector_Compare bvector_Compare (argsvector_Compare a) [] (fun v _ => some (v, [])) = fnvector_Compare a (fun y => some (rendvector_Compare a y, [])) := by kernel_rfl
noncomputable def vFvector_Compare (a : Avector_Compare) (K : AV → Ans) : Ans := bindO (fnDvector_Compare a) fun y => K (rendvector_Compare a y)
noncomputable def Fvector_Compare : List AV → (AV → Ans) → Ans := fun l K => bindO (decAvector_Compare l) fun a => vFvector_Compare a K
theorem Fvector_Compare_ok : PureOk Tryd.prog 22 Fvector_Compare := pure_mkD (hint := noHint) (d := 0) (n := 70) mixed tabOk envvector_CompareOk Tryd.func22 (bodySome (by kernel_rfl)) (by decide +kernel) annvector_Compare_ok decAvector_Compare_ok fnvector_Compare_ok fnvector_Compare_nat rendvector_Compare_ok
--@ slot_Check
noncomputable def envslot_Check : Env := [(21, .pure Fvector_Right), (22, .pure Fvector_Compare)]
theorem envslot_CheckOk : EnvOk Tryd.prog envslot_Check := EnvOk.cons Fvector_Right_ok (EnvOk.cons Fvector_Compare_ok (EnvOk.nil))
noncomputable def bslot_Check : Code := Tryd.f9.body.getD .skip
noncomputable def Lslot_Check_n4 : Code := codeAt [1, 0, 0, 1, 1, 1, 1, 0, 1] bslot_Check
noncomputable def annLslot_Check_n4 : Ann := .none
theorem annLslot_Check_n4_ok : AnnOk Tryd.prog 51 Lslot_Check_n4 annLslot_Check_n4 := (annOk_none _ _ _)
abbrev Islot_Check_n4 := (Bool) × (Int) × (Int) × (Int) × (List UInt8) × (Int) × (Int) × (List UInt8)
abbrev Yslot_Check_n4 := (Bool)
def Sslot_Check_n4 : Islot_Check_n4 → St := fun (t33, o0_0, o0_1, o0_2, o0_3, o0_4, o0_5, o0_6) => { env := [(1, AV.ptr 0 0), (33, AV.bool t33)], stk := [[]], H := [AE.Obj.cells [AV.int IntKind.i64 o0_0, AV.int IntKind.i64 o0_1, AV.int IntKind.i64 o0_2, AV.str o0_3, AV.int IntKind.i64 o0_4, AV.int IntKind.i64 o0_5, AV.str o0_6]], blk := 36864 }
def decslot_Check_n4 (s : St) : Option Islot_Check_n4 := match s with
  | { env := [(1, AV.ptr 0 0), (33, AV.bool t33)], stk := [[]], H := [AE.Obj.cells [AV.int IntKind.i64 o0_0, AV.int IntKind.i64 o0_1, AV.int IntKind.i64 o0_2, AV.str o0_3, AV.int IntKind.i64 o0_4, AV.int IntKind.i64 o0_5, AV.str o0_6]], blk := 36864 } => some (t33, o0_0, o0_1, o0_2, o0_3, o0_4, o0_5, o0_6)
  | _ => none
theorem decslot_Check_n4_ok (s : St) (x : Islot_Check_n4) (h : decslot_Check_n4 s = some x) : s = Sslot_Check_n4 x := by
  unfold decslot_Check_n4 at h
  split at h
  · cases h; rfl
  · cases h
def outslot_Check_n4 : Islot_Check_n4 → (Ex → St → Ans) → Yslot_Check_n4 → Ans := fun (t33, o0_0, o0_1, o0_2, o0_3, o0_4, o0_5, o0_6) K => fun t33_y => K (Ex.norm) { env := [(33, AV.bool t33_y)], stk := [[]], H := [], blk := 36864 }
noncomputable def nodeslot_Check_n4 {β : Type} : Islot_Check_n4 → (Yslot_Check_n4 → Option β) → Option β := fun (t33, o0_0, o0_1, o0_2, o0_3, o0_4, o0_5, o0_6) exit => (bif t33 then (exit (t33)) else (exit (decide (o0_1 < o0_4))))
noncomputable def nodeDslot_Check_n4 (i : Islot_Check_n4) : Option Yslot_Check_n4 := nodeslot_Check_n4 i some
theorem nodeslot_Check_n4_nat (i : Islot_Check_n4) (k : Yslot_Check_n4 → Ans) : nodeslot_Check_n4 i k = bindO (nodeDslot_Check_n4 i) k := by
  obtain ⟨t33, o0_0, o0_1, o0_2, o0_3, o0_4, o0_5, o0_6⟩ := i
  simp only [nodeDslot_Check_n4, nodeslot_Check_n4, bindO_cond, bindO_assoc, bindO_none, bindO_pure, bindO_elim, bindO_unP]
theorem nodeslot_Check_n4_ok (i : Islot_Check_n4) (K : Ex → St → Ans) : codeI Tryd.tab envslot_Check noHint (codeD Tryd.tab envslot_Check noHint 0 64) 70 51 annLslot_Check_n4 Lslot_Check_n4 (weakP 0 (exk [33] [2] []) K) (Sslot_Check_n4 i) = nodeslot_Check_n4 i (outslot_Check_n4 i K) := by kernel_rfl
theorem GNslot_Check_n4_ok : CSum Tryd.prog 51 Lslot_Check_n4 (sumN decslot_Check_n4 nodeDslot_Check_n4 outslot_Check_n4) := csum_node mixed tabOk envslot_CheckOk 0 (exk [33] [2] []) annLslot_Check_n4_ok decslot_Check_n4_ok nodeslot_Check_n4_ok nodeslot_Check_n4_nat
noncomputable def Gslot_Check_n4 : (Ex → St → Ans) → St → Ans := (sumN decslot_Check_n4 nodeDslot_Check_n4 outslot_Check_n4)
theorem Gslot_Check_n4_ok : CSum Tryd.prog 51 Lslot_Check_n4 Gslot_Check_n4 := GNslot_Check_n4_ok
noncomputable def Lslot_Check_n3 : Code := codeAt [1, 0, 0, 1, 1, 0, 1] bslot_Check
noncomputable def annLslot_Check_n3 : Ann := .none
theorem annLslot_Check_n3_ok : AnnOk Tryd.prog 51 Lslot_Check_n3 annLslot_Check_n3 := (annOk_none _ _ _)
abbrev Islot_Check_n3 := (Bool) × (Int) × (Int) × (Int) × (List UInt8) × (Int) × (Int) × (List UInt8)
abbrev Yslot_Check_n3 := (Bool)
def Sslot_Check_n3 : Islot_Check_n3 → St := fun (t22, o0_0, o0_1, o0_2, o0_3, o0_4, o0_5, o0_6) => { env := [(1, AV.ptr 0 0), (22, AV.bool t22)], stk := [[]], H := [AE.Obj.cells [AV.int IntKind.i64 o0_0, AV.int IntKind.i64 o0_1, AV.int IntKind.i64 o0_2, AV.str o0_3, AV.int IntKind.i64 o0_4, AV.int IntKind.i64 o0_5, AV.str o0_6]], blk := 36864 }
def decslot_Check_n3 (s : St) : Option Islot_Check_n3 := match s with
  | { env := [(1, AV.ptr 0 0), (22, AV.bool t22)], stk := [[]], H := [AE.Obj.cells [AV.int IntKind.i64 o0_0, AV.int IntKind.i64 o0_1, AV.int IntKind.i64 o0_2, AV.str o0_3, AV.int IntKind.i64 o0_4, AV.int IntKind.i64 o0_5, AV.str o0_6]], blk := 36864 } => some (t22, o0_0, o0_1, o0_2, o0_3, o0_4, o0_5, o0_6)
  | _ => none
theorem decslot_Check_n3_ok (s : St) (x : Islot_Check_n3) (h : decslot_Check_n3 s = some x) : s = Sslot_Check_n3 x := by
  unfold decslot_Check_n3 at h
  split at h
  · cases h; rfl
  · cases h
def outslot_Check_n3 : Islot_Check_n3 → (Ex → St → Ans) → Yslot_Check_n3 → Ans := fun (t22, o0_0, o0_1, o0_2, o0_3, o0_4, o0_5, o0_6) K => fun t22_y => K (Ex.norm) { env := [(1, AV.ptr 0 0), (22, AV.bool t22_y)], stk := [[]], H := [AE.Obj.cells [AV.int IntKind.i64 o0_0, AV.int IntKind.i64 o0_1, AV.int IntKind.i64 o0_2, AV.str o0_3, AV.int IntKind.i64 o0_4, AV.int IntKind.i64 o0_5, AV.str o0_6]], blk := 36864 }
noncomputable def nodeslot_Check_n3 {β : Type} : Islot_Check_n3 → (Yslot_Check_n3 → Option β) → Option β := fun (t22, o0_0, o0_1, o0_2, o0_3, o0_4, o0_5, o0_6) exit => (bif t22 then (exit (t22)) else (exit ((↑(List.length o0_6) : Int) != (128 : Int))))
noncomputable def nodeDslot_Check_n3 (i : Islot_Check_n3) : Option Yslot_Check_n3 := nodeslot_Check_n3 i some
theorem nodeslot_Check_n3_nat (i : Islot_Check_n3) (k : Yslot_Check_n3 → Ans) : nodeslot_Check_n3 i k = bindO (nodeDslot_Check_n3 i) k := by
  obtain ⟨t22, o0_0, o0_1, o0_2, o0_3, o0_4, o0_5, o0_6⟩ := i
  simp only [nodeDslot_Check_n3, nodeslot_Check_n3, bindO_cond, bindO_assoc, bindO_none, bindO_pure, bindO_elim, bindO_unP]
theorem nodeslot_Check_n3_ok (i : Islot_Check_n3) (K : Ex → St → Ans) : codeI Tryd.tab envslot_Check noHint (codeD Tryd.tab envslot_Check noHint 0 64) 70 51 annLslot_Check_n3 Lslot_Check_n3 (weakP 0 (exk [1, 22] [2] []) K) (Sslot_Check_n3 i) = nodeslot_Check_n3 i (outslot_Check_n3 i K) := by kernel_rfl
theorem GNslot_Check_n3_ok : CSum Tryd.prog 51 Lslot_Check_n3 (sumN decslot_Check_n3 nodeDslot_Check_n3 outslot_Check_n3) := csum_node mixed tabOk envslot_CheckOk 0 (exk [1, 22] [2] []) annLslot_Check_n3_ok decslot_Check_n3_ok nodeslot_Check_n3_ok nodeslot_Check_n3_nat
noncomputable def Gslot_Check_n3 : (Ex → St → Ans) → St → Ans := (sumN decslot_Check_n3 nodeDslot_Check_n3 outslot_Check_n3)
theorem Gslot_Check_n3_ok : CSum Tryd.prog 51 Lslot_Check_n3 Gslot_Check_n3 := GNslot_Check_n3_ok
noncomputable def Lslot_Check_n2 : Code := codeAt [1, 0, 0, 0, 1] bslot_Check
noncomputable def annLslot_Check_n2 : Ann := .none
theorem annLslot_Check_n2_ok : AnnOk Tryd.prog 51 Lslot_Check_n2 annLslot_Check_n2 := (annOk_none _ _ _)
abbrev Islot_Check_n2 := (Bool) × (Int) × (Int) × (Int) × (List UInt8) × (Int) × (Int) × (List UInt8)
abbrev Yslot_Check_n2 := (Bool)
def Sslot_Check_n2 : Islot_Check_n2 → St := fun (t3, o0_0, o0_1, o0_2, o0_3, o0_4, o0_5, o0_6) => { env := [(1, AV.ptr 0 0), (3, AV.bool t3)], stk := [[]], H := [AE.Obj.cells [AV.int IntKind.i64 o0_0, AV.int IntKind.i64 o0_1, AV.int IntKind.i64 o0_2, AV.str o0_3, AV.int IntKind.i64 o0_4, AV.int IntKind.i64 o0_5, AV.str o0_6]], blk := 36864 }
def decslot_Check_n2 (s : St) : Option Islot_Check_n2 := match s with
  | { env := [(1, AV.ptr 0 0), (3, AV.bool t3)], stk := [[]], H := [AE.Obj.cells [AV.int IntKind.i64 o0_0, AV.int IntKind.i64 o0_1, AV.int IntKind.i64 o0_2, AV.str o0_3, AV.int IntKind.i64 o0_4, AV.int IntKind.i64 o0_5, AV.str o0_6]], blk := 36864 } => some (t3, o0_0, o0_1, o0_2, o0_3, o0_4, o0_5, o0_6)
  | _ => none
theorem decslot_Check_n2_ok (s : St) (x : Islot_Check_n2) (h : decslot_Check_n2 s = some x) : s = Sslot_Check_n2 x := by
  unfold decslot_Check_n2 at h
  split at h
  · cases h; rfl
  · cases h
def outslot_Check_n2 : Islot_Check_n2 → (Ex → St → Ans) → Yslot_Check_n2 → Ans := fun (t3, o0_0, o0_1, o0_2, o0_3, o0_4, o0_5, o0_6) K => fun t3_y => K (Ex.norm) { env := [(1, AV.ptr 0 0), (3, AV.bool t3_y)], stk := [[]], H := [AE.Obj.cells [AV.int IntKind.i64 o0_0, AV.int IntKind.i64 o0_1, AV.int IntKind.i64 o0_2, AV.str o0_3, AV.int IntKind.i64 o0_4, AV.int IntKind.i64 o0_5, AV.str o0_6]], blk := 36864 }
noncomputable def nodeslot_Check_n2 {β : Type} : Islot_Check_n2 → (Yslot_Check_n2 → Option β) → Option β := fun (t3, o0_0, o0_1, o0_2, o0_3, o0_4, o0_5, o0_6) exit => (bif t3 then (exit (t3)) else (bindO (fnDvector_Right (o0_1, o0_2)) fun r => (bif !r then (exit (!r)) else (bindO (fnDvector_Right (o0_4, o0_5)) fun r_2 => (exit (!r_2))))))
noncomputable def nodeDslot_Check_n2 (i : Islot_Check_n2) : Option Yslot_Check_n2 := nodeslot_Check_n2 i some
theorem nodeslot_Check_n2_nat (i : Islot_Check_n2) (k : Yslot_Check_n2 → Ans) : nodeslot_Check_n2 i k = bindO (nodeDslot_Check_n2 i) k := by
  obtain ⟨t3, o0_0, o0_1, o0_2, o0_3, o0_4, o0_5, o0_6⟩ := i
  simp only [nodeDslot_Check_n2, nodeslot_Check_n2, bindO_cond, bindO_assoc, bindO_none, bindO_pure, bindO_elim, bindO_unP]
theorem nodeslot_Check_n2_ok (i : Islot_Check_n2) (K : Ex → St → Ans) : codeI Tryd.tab envslot_Check noHint (codeD Tryd.tab envslot_Check noHint 0 64) 70 51 annLslot_Check_n2 Lslot_Check_n2 (weakP 0 (exk [1, 3] [2] []) K) (Sslot_Check_n2 i) = nodeslot_Check_n2 i (outslot_Check_n2 i K) := by kernel_rfl
theorem GNslot_Check_n2_ok : CSum Tryd.prog 51 Lslot_Check_n2 (sumN decslot_Check_n2 nodeDslot_Check_n2 outslot_Check_n2) := csum_node mixed tabOk envslot_CheckOk 0 (exk [1, 3] [2] []) annLslot_Check_n2_ok decslot_Check_n2_ok nodeslot_Check_n2_ok nodeslot_Check_n2_nat
noncomputable def Gslot_Check_n2 : (Ex → St → Ans) → St → Ans := (sumN decslot_Check_n2 nodeDslot_Check_n2 outslot_Check_n2)
theorem Gslot_Check_n2_ok : CSum Tryd.prog 51 Lslot_Check_n2 Gslot_Check_n2 := GNslot_Check_n2_ok
noncomputable def Lslot_Check_n1 : Code := codeAt [1, 0, 0, 0, 0] bslot_Check
noncomputable def annLslot_Check_n1 : Ann := .none
theorem annLslot_Check_n1_ok : AnnOk Tryd.prog 51 Lslot_Check_n1 annLslot_Check_n1 := (annOk_none _ _ _)
abbrev Islot_Check_n1 := (Int) × (Int) × (Int) × (List UInt8) × (Int) × (Int) × (List UInt8)
abbrev Yslot_Check_n1 := (Bool)
def Sslot_Check_n1 : Islot_Check_n1 → St := fun (o0_0, o0_1, o0_2, o0_3, o0_4, o0_5, o0_6) => { env := [(1, AV.ptr 0 0)], stk := [[]], H := [AE.Obj.cells [AV.int IntKind.i64 o0_0, AV.int IntKind.i64 o0_1, AV.int IntKind.i64 o0_2, AV.str o0_3, AV.int IntKind.i64 o0_4, AV.int IntKind.i64 o0_5, AV.str o0_6]], blk := 36864 }
def decslot_Check_n1 (s : St) : Option Islot_Check_n1 := match s with
  | { env := [(1, AV.ptr 0 0)], stk := [[]], H := [AE.Obj.cells [AV.int IntKind.i64 o0_0, AV.int IntKind.i64 o0_1, AV.int IntKind.i64 o0_2, AV.str o0_3, AV.int IntKind.i64 o0_4, AV.int IntKind.i64 o0_5, AV.str o0_6]], blk := 36864 } => some (o0_0, o0_1, o0_2, o0_3, o0_4, o0_5, o0_6)
  | _ => none
theorem decslot_Check_n1_ok (s : St) (x : Islot_Check_n1) (h : decslot_Check_n1 s = some x) : s = Sslot_Check_n1 x := by
  unfold decslot_Check_n1 at h
  split at h
  · cases h; rfl
  · cases h
def outslot_Check_n1 : Islot_Check_n1 → (Ex → St → Ans) → Yslot_Check_n1 → Ans := fun (o0_0, o0_1, o0_2, o0_3, o0_4, o0_5, o0_6) K => fun t3_y => K (Ex.norm) { env := [(1, AV.ptr 0 0), (3, AV.bool t3_y)], stk := [[]], H := [AE.Obj.cells [AV.int IntKind.i64 o0_0, AV.int IntKind.i64 o0_1, AV.int IntKind.i64 o0_2, AV.str o0_3, AV.int IntKind.i64 o0_4, AV.int IntKind.i64 o0_5, AV.str o0_6]], blk := 36864 }
noncomputable def nodeslot_Check_n1 {β : Type} : Islot_Check_n1 → (Yslot_Check_n1 → Option β) → Option β := fun (o0_0, o0_1, o0_2, o0_3, o0_4, o0_5, o0_6) exit => (bif decide (o0_0 < (0 : Int)) then (exit (true)) else (exit (decide (o0_0 ≥ (24 : Int)))))
noncomputable def nodeDslot_Check_n1 (i : Islot_Check_n1) : Option Yslot_Check_n1 := nodeslot_Check_n1 i some
theorem nodeslot_Check_n1_nat (i : Islot_Check_n1) (k : Yslot_Check_n1 → Ans) : nodeslot_Check_n1 i k = bindO (nodeDslot_Check_n1 i) k := by
  obtain ⟨o0_0, o0_1, o0_2, o0_3, o0_4, o0_5, o0_6⟩ := i
  simp only [nodeDslot_Check_n1, nodeslot_Check_n1, bindO_cond, bindO_assoc, bindO_none, bindO_pure, bindO_elim, bindO_unP]
theorem nodeslot_Check_n1_ok (i : Islot_Check_n1) (K : Ex → St → Ans) : codeI Tryd.tab envslot_Check noHint (codeD Tryd.tab envslot_Check noHint 0 64) 70 51 annLslot_Check_n1 Lslot_Check_n1 (weakP 0 (exk [1, 3] [2] []) K) (Sslot_Check_n1 i) = nodeslot_Check_n1 i (outslot_Check_n1 i K) := by kernel_rfl
theorem GNslot_Check_n1_ok : CSum Tryd.prog 51 Lslot_Check_n1 (sumN decslot_Check_n1 nodeDslot_Check_n1 outslot_Check_n1) := csum_node mixed tabOk envslot_CheckOk 0 (exk [1, 3] [2] []) annLslot_Check_n1_ok decslot_Check_n1_ok nodeslot_Check_n1_ok nodeslot_Check_n1_nat
noncomputable def Gslot_Check_n1 : (Ex → St → Ans) → St → Ans := (sumN decslot_Check_n1 nodeDslot_Check_n1 outslot_Check_n1)
theorem Gslot_Check_n1_ok : CSum Tryd.prog 51 Lslot_Check_n1 Gslot_Check_n1 := GNslot_Check_n1_ok
noncomputable def Lslot_Check_n0 : Code := codeAt [1, 0] bslot_Check
noncomputable def annLslot_Check_n0 : Ann := (.block (.seq (.seq (.cut 0 [1] Gslot_Check_n1) (.cut 0 [1, 3] Gslot_Check_n2)) (.cond .none (.seq (.seq .none (.cut 0 [1, 22] Gslot_Check_n3)) (.cond .none (.seq (.seq .none (.cut 0 [1, 33] Gslot_Check_n4)) .none))))))
theorem annLslot_Check_n0_ok : AnnOk Tryd.prog 51 Lslot_Check_n0 annLslot_Check_n0 := ⟨⟨Gslot_Check_n1_ok, Gslot_Check_n2_ok⟩, ⟨(annOk_none _ _ _), ⟨⟨(annOk_none _ _ _), Gslot_Check_n3_ok⟩, ⟨(annOk_none _ _ _), ⟨⟨(annOk_none _ _ _), Gslot_Check_n4_ok⟩, (annOk_none _ _ _)⟩⟩⟩⟩⟩
abbrev Islot_Check_n0 := (Int) × (Int) × (Int) × (List UInt8) × (Int) × (Int) × (List UInt8)
abbrev Yslot_Check_n0 := ((Int)) ⊕ (Unit)
def Sslot_Check_n0 : Islot_Check_n0 → St := fun (o0_0, o0_1, o0_2, o0_3, o0_4, o0_5, o0_6) => { env := [(1, AV.ptr 0 0)], stk := [[]], H := [AE.Obj.cells [AV.int IntKind.i64 o0_0, AV.int IntKind.i64 o0_1, AV.int IntKind.i64 o0_2, AV.str o0_3, AV.int IntKind.i64 o0_4, AV.int IntKind.i64 o0_5, AV.str o0_6]], blk := 36864 }
def decslot_Check_n0 (s : St) : Option Islot_Check_n0 := match s with
  | { env := [(1, AV.ptr 0 0)], stk := [[]], H := [AE.Obj.cells [AV.int IntKind.i64 o0_0, AV.int IntKind.i64 o0_1, AV.int IntKind.i64 o0_2, AV.str o0_3, AV.int IntKind.i64 o0_4, AV.int IntKind.i64 o0_5, AV.str o0_6]], blk := 36864 } => some (o0_0, o0_1, o0_2, o0_3, o0_4, o0_5, o0_6)
  | _ => none
theorem decslot_Check_n0_ok (s : St) (x : Islot_Check_n0) (h : decslot_Check_n0 s = some x) : s = Sslot_Check_n0 x := by
  unfold decslot_Check_n0 at h
  split at h
  · cases h; rfl
  · cases h
def outslot_Check_n0 : Islot_Check_n0 → (Ex → St → Ans) → Yslot_Check_n0 → Ans := fun (o0_0, o0_1, o0_2, o0_3, o0_4, o0_5, o0_6) K => (Sum.elim (fun t2_y => K (Ex.ret) { env := [(2, AV.int IntKind.i64 t2_y)], stk := [[]], H := [], blk := 36864 }) (fun _ => K (Ex.norm) { env := [], stk := [[]], H := [], blk := 36864 }))
noncomputable def nodeslot_Check_n0 {β : Type} : Islot_Check_n0 → (Yslot_Check_n0 → Option β) → Option β := fun (o0_0, o0_1, o0_2, o0_3, o0_4, o0_5, o0_6) exit => (bindO (nodeDslot_Check_n1 (o0_0, o0_1, o0_2, o0_3, o0_4, o0_5, o0_6)) fun t3 => (bindO (nodeDslot_Check_n2 (t3, o0_0, o0_1, o0_2, o0_3, o0_4, o0_5, o0_6)) fun t3_2 => (bif t3_2 then (exit (Sum.inl ((3 : Int)))) else (bindO (nodeDslot_Check_n3 ((↑(List.length o0_3) : Int) != (128 : Int), o0_0, o0_1, o0_2, o0_3, o0_4, o0_5, o0_6)) fun t22 => (bif t22 then (exit (Sum.inl ((12 : Int)))) else (bindO (fnDvector_Compare (o0_1, o0_2, o0_4, o0_5)) fun r => (bindO (nodeDslot_Check_n4 (r != (3 : Int), o0_0, o0_1, o0_2, o0_3, o0_4, o0_5, o0_6)) fun t33 => (bif t33 then (exit (Sum.inl ((10 : Int)))) else (exit (Sum.inr ()))))))))))
noncomputable def nodeDslot_Check_n0 (i : Islot_Check_n0) : Option Yslot_Check_n0 := nodeslot_Check_n0 i some
theorem nodeslot_Check_n0_nat (i : Islot_Check_n0) (k : Yslot_Check_n0 → Ans) : nodeslot_Check_n0 i k = bindO (nodeDslot_Check_n0 i) k := by
  obtain ⟨o0_0, o0_1, o0_2, o0_3, o0_4, o0_5, o0_6⟩ := i
  simp only [nodeDslot_Check_n0, nodeslot_Check_n0, bindO_cond, bindO_assoc, bindO_none, bindO_pure, bindO_elim, bindO_unP]
theorem nodeslot_Check_n0_ok (i : Islot_Check_n0) (K : Ex → St → Ans) : codeI Tryd.tab envslot_Check noHint (codeD Tryd.tab envslot_Check noHint 0 64) 70 51 annLslot_Check_n0 Lslot_Check_n0 (weakP 0 (exk [] [2] []) K) (Sslot_Check_n0 i) = nodeslot_Check_n0 i (outslot_Check_n0 i K) := by kernel_rfl
theorem GNslot_Check_n0_ok : CSum Tryd.prog 51 Lslot_Check_n0 (sumN decslot_Check_n0 nodeDslot_Check_n0 outslot_Check_n0) := csum_node mixed tabOk envslot_CheckOk 0 (exk [] [2] []) annLslot_Check_n0_ok decslot_Check_n0_ok nodeslot_Check_n0_ok nodeslot_Check_n0_nat
noncomputable def Gslot_Check_n0 : (Ex → St → Ans) → St → Ans := (sumN decslot_Check_n0 nodeDslot_Check_n0 outslot_Check_n0)
theorem Gslot_Check_n0_ok : CSum Tryd.prog 51 Lslot_Check_n0 Gslot_Check_n0 := GNslot_Check_n0_ok
noncomputable def annslot_Check : Ann := (.seq .none (.seq (.cut 0 [1] Gslot_Check_n0) .none))
theorem annslot_Check_ok : AnnOk Tryd.prog 51 bslot_Check annslot_Check := ⟨(annOk_none _ _ _), ⟨Gslot_Check_n0_ok, (annOk_none _ _ _)⟩⟩
abbrev Aslot_Check := (Int) × (Int) × (Int) × (List UInt8) × (Int) × (Int) × (List UInt8)
abbrev Yslot_Check := (Int)
noncomputable def fnslot_Check {β : Type} : Aslot_Check → (Yslot_Check → Option β) → Option β := fun (a0_0, a0_1, a0_2, a0_3, a0_4, a0_5, a0_6) exit => (bindO (nodeDslot_Check_n0 (a0_0, a0_1, a0_2, a0_3, a0_4, a0_5, a0_6)) (Sum.elim (fun t2 => (exit (t2))) (fun _ => (exit ((0 : Int))))))
noncomputable def fnDslot_Check (a : Aslot_Check) : Option Yslot_Check := fnslot_Check a some
theorem fnslot_Check_nat (a : Aslot_Check) (k : Yslot_Check → Ans) : fnslot_Check a k = bindO (fnDslot_Check a) k := by
  obtain ⟨a0_0, a0_1, a0_2, a0_3, a0_4, a0_5, a0_6⟩ := a
  simp only [fnDslot_Check, fnslot_Check, bindO_cond, bindO_assoc, bindO_none, bindO_pure, bindO_elim, bindO_unP]
def argsslot_Check : Aslot_Check → List AV := fun (a0_0, a0_1, a0_2, a0_3, a0_4, a0_5, a0_6) => [AV.agg [AV.int IntKind.i64 a0_0, AV.int IntKind.i64 a0_1, AV.int IntKind.i64 a0_2, AV.str a0_3, AV.int IntKind.i64 a0_4, AV.int IntKind.i64 a0_5, AV.str a0_6]]
def decAslot_Check (l : List AV) : Option Aslot_Check := match l with
  | [AV.agg [AV.int IntKind.i64 a0_0, AV.int IntKind.i64 a0_1, AV.int IntKind.i64 a0_2, AV.str a0_3, AV.int IntKind.i64 a0_4, AV.int IntKind.i64 a0_5, AV.str a0_6]] => some (a0_0, a0_1, a0_2, a0_3, a0_4, a0_5, a0_6)
  | _ => none
theorem decAslot_Check_ok (l : List AV) (a : Aslot_Check) (h : decAslot_Check l = some a) : l = argsslot_Check a := by
  unfold decAslot_Check at h
  split at h
  · cases h; rfl
  · cases h
def rendslot_Check : Aslot_Check → Yslot_Check → AV := fun (a0_0, a0_1, a0_2, a0_3, a0_4, a0_5, a0_6) => fun r_y => AV.int IntKind.i64 r_y
theorem rendslot_Check_ok : ∀ (a : Aslot_Check) (y : Yslot_Check), (rendslot_Check a y).closed1 = true := by
  rintro ⟨a0_0, a0_1, a0_2, a0_3, a0_4, a0_5, a0_6⟩ y <;> first | rfl | exact Empty.elim y
theorem fnslot_Check_ok (a : Aslot_Check) : fnE Tryd.tab envslot_Check noHint 0 70 9 Tryd.f9.ntmps Tryd.f9.results.toList annslot_Check bslot_Check (argsslot_Check a) [] (fun v _ => some (v, [])) = fnslot_Check a (fun y => some (rendslot_Check a y, [])) := by kernel_rfl
noncomputable def vFslot_Check (a : Aslot_Check) (K : AV → Ans) : Ans := bindO (fnDslot_Check a) fun y => K (rendslot_Check a y)
noncomputable def Fslot_Check : List AV → (AV → Ans) → Ans := fun l K => bindO (decAslot_Check l) fun a => vFslot_Check a K
theorem Fslot_Check_ok : PureOk Tryd.prog 9 Fslot_Check := pure_mkD (hint := noHint) (d := 0) (n := 70) mixed tabOk envslot_CheckOk Tryd.func9 (bodySome (by kernel_rfl)) (by decide +kernel) annslot_Check_ok decAslot_Check_ok fnslot_Check_ok fnslot_Check_nat rendslot_Check_ok
--@ field_width
noncomputable def envfield_width : Env := []
theorem envfield_widthOk : EnvOk Tryd.prog envfield_width := EnvOk.nil
noncomputable def bfield_width : Code := Tryd.f46.body.getD .skip
noncomputable def Lfield_width_n0 : Code := codeAt [1, 0] bfield_width
noncomputable def annLfield_width_n0 : Ann := .none
theorem annLfield_width_n0_ok : AnnOk Tryd.prog 9 Lfield_width_n0 annLfield_width_n0 := (annOk_none _ _ _)
abbrev Ifield_width_n0 := (Int)
abbrev Yfield_width_n0 := (Bool)
def Sfield_width_n0 : Ifield_width_n0 → St := fun t0 => { env := [(0, AV.int IntKind.i64 t0)], stk := [[]], H := [], blk := 188416 }
def decfield_width_n0 (s : St) : Option Ifield_width_n0 := match s with
  | { env := [(0, AV.int IntKind.i64 t0)], stk := [[]], H := [], blk := 188416 } => some (t0)
  | _ => none
theorem decfield_width_n0_ok (s : St) (x : Ifield_width_n0) (h : decfield_width_n0 s = some x) : s = Sfield_width_n0 x := by
  unfold decfield_width_n0 at h
  split at h
  · cases h; rfl
  · cases h
def outfield_width_n0 : Ifield_width_n0 → (Ex → St → Ans) → Yfield_width_n0 → Ans := fun t0 K => fun t2_y => K (Ex.norm) { env := [(2, AV.bool t2_y)], stk := [[]], H := [], blk := 188416 }
noncomputable def nodefield_width_n0 {β : Type} : Ifield_width_n0 → (Yfield_width_n0 → Option β) → Option β := fun t0 exit => (bif decide (t0 ≥ (1 : Int)) then (exit (decide (t0 ≤ (7 : Int)))) else (exit (false)))
noncomputable def nodeDfield_width_n0 (i : Ifield_width_n0) : Option Yfield_width_n0 := nodefield_width_n0 i some
theorem nodefield_width_n0_nat (i : Ifield_width_n0) (k : Yfield_width_n0 → Ans) : nodefield_width_n0 i k = bindO (nodeDfield_width_n0 i) k := by
  obtain z := i
  simp only [nodeDfield_width_n0, nodefield_width_n0, bindO_cond, bindO_assoc, bindO_none, bindO_pure, bindO_elim, bindO_unP]
theorem nodefield_width_n0_ok (i : Ifield_width_n0) (K : Ex → St → Ans) : codeI Tryd.tab envfield_width noHint (codeD Tryd.tab envfield_width noHint 0 64) 70 9 annLfield_width_n0 Lfield_width_n0 (weakP 0 (exk [2] [2] []) K) (Sfield_width_n0 i) = nodefield_width_n0 i (outfield_width_n0 i K) := by kernel_rfl
theorem GNfield_width_n0_ok : CSum Tryd.prog 9 Lfield_width_n0 (sumN decfield_width_n0 nodeDfield_width_n0 outfield_width_n0) := csum_node mixed tabOk envfield_widthOk 0 (exk [2] [2] []) annLfield_width_n0_ok decfield_width_n0_ok nodefield_width_n0_ok nodefield_width_n0_nat
noncomputable def Gfield_width_n0 : (Ex → St → Ans) → St → Ans := (sumN decfield_width_n0 nodeDfield_width_n0 outfield_width_n0)
theorem Gfield_width_n0_ok : CSum Tryd.prog 9 Lfield_width_n0 Gfield_width_n0 := GNfield_width_n0_ok
noncomputable def annfield_width : Ann := (.seq .none (.seq (.cut 0 [0] Gfield_width_n0) .none))
theorem annfield_width_ok : AnnOk Tryd.prog 9 bfield_width annfield_width := ⟨(annOk_none _ _ _), ⟨Gfield_width_n0_ok, (annOk_none _ _ _)⟩⟩
abbrev Afield_width := (Int)
abbrev Yfield_width := (Bool)
noncomputable def fnfield_width {β : Type} : Afield_width → (Yfield_width → Option β) → Option β := fun a0 exit => (bindO (nodeDfield_width_n0 (a0)) fun t2 => (exit (t2)))
noncomputable def fnDfield_width (a : Afield_width) : Option Yfield_width := fnfield_width a some
theorem fnfield_width_nat (a : Afield_width) (k : Yfield_width → Ans) : fnfield_width a k = bindO (fnDfield_width a) k := by
  obtain z := a
  simp only [fnDfield_width, fnfield_width, bindO_cond, bindO_assoc, bindO_none, bindO_pure, bindO_elim, bindO_unP]
def argsfield_width : Afield_width → List AV := fun a0 => [AV.int IntKind.i64 a0]
def decAfield_width (l : List AV) : Option Afield_width := match l with
  | [AV.int IntKind.i64 a0] => some (a0)
  | _ => none
theorem decAfield_width_ok (l : List AV) (a : Afield_width) (h : decAfield_width l = some a) : l = argsfield_width a := by
  unfold decAfield_width at h
  split at h
  · cases h; rfl
  · cases h
def rendfield_width : Afield_width → Yfield_width → AV := fun a0 => fun r_y => AV.bool r_y
theorem rendfield_width_ok : ∀ (a : Afield_width) (y : Yfield_width), (rendfield_width a y).closed1 = true := by
  rintro z y <;> first | rfl | exact Empty.elim y
theorem fnfield_width_ok (a : Afield_width) : fnE Tryd.tab envfield_width noHint 0 70 46 Tryd.f46.ntmps Tryd.f46.results.toList annfield_width bfield_width (argsfield_width a) [] (fun v _ => some (v, [])) = fnfield_width a (fun y => some (rendfield_width a y, [])) := by kernel_rfl
noncomputable def vFfield_width (a : Afield_width) (K : AV → Ans) : Ans := bindO (fnDfield_width a) fun y => K (rendfield_width a y)
noncomputable def Ffield_width : List AV → (AV → Ans) → Ans := fun l K => bindO (decAfield_width l) fun a => vFfield_width a K
theorem Ffield_width_ok : PureOk Tryd.prog 46 Ffield_width := pure_mkD (hint := noHint) (d := 0) (n := 70) mixed tabOk envfield_widthOk Tryd.func46 (bodySome (by kernel_rfl)) (by decide +kernel) annfield_width_ok decAfield_width_ok fnfield_width_ok fnfield_width_nat rendfield_width_ok
--@ field_Fits
noncomputable def envfield_Fits : Env := [(46, .pure Ffield_width)]
theorem envfield_FitsOk : EnvOk Tryd.prog envfield_Fits := EnvOk.cons Ffield_width_ok (EnvOk.nil)
noncomputable def bfield_Fits : Code := Tryd.f30.body.getD .skip
noncomputable def Lfield_Fits_n0 : Code := codeAt [1, 0] bfield_Fits
noncomputable def annLfield_Fits_n0 : Ann := .none
theorem annLfield_Fits_n0_ok : AnnOk Tryd.prog 18 Lfield_Fits_n0 annLfield_Fits_n0 := (annOk_none _ _ _)
abbrev Ifield_Fits_n0 := (Int) × (Int)
abbrev Yfield_Fits_n0 := (Bool)
def Sfield_Fits_n0 : Ifield_Fits_n0 → St := fun (t0, t1) => { env := [(0, AV.int IntKind.i64 t0), (1, AV.int IntKind.i64 t1)], stk := [[]], H := [], blk := 122880 }
def decfield_Fits_n0 (s : St) : Option Ifield_Fits_n0 := match s with
  | { env := [(0, AV.int IntKind.i64 t0), (1, AV.int IntKind.i64 t1)], stk := [[]], H := [], blk := 122880 } => some (t0, t1)
  | _ => none
theorem decfield_Fits_n0_ok (s : St) (x : Ifield_Fits_n0) (h : decfield_Fits_n0 s = some x) : s = Sfield_Fits_n0 x := by
  unfold decfield_Fits_n0 at h
  split at h
  · cases h; rfl
  · cases h
def outfield_Fits_n0 : Ifield_Fits_n0 → (Ex → St → Ans) → Yfield_Fits_n0 → Ans := fun (t0, t1) K => fun t4_y => K (Ex.norm) { env := [(4, AV.bool t4_y)], stk := [[]], H := [], blk := 122880 }
noncomputable def nodefield_Fits_n0 {β : Type} : Ifield_Fits_n0 → (Yfield_Fits_n0 → Option β) → Option β := fun (t0, t1) exit => (bindO (fnDfield_width (t1)) fun r => (bif r then (bif decide (t0 ≥ (0 : Int)) then (bif decide (IntKind.wrap IntKind.i64 ((8 : Int) * t1) < (0 : Int)) then none else (exit (Int.fdiv t0 ((2 : Int) ^ min (Int.toNat (IntKind.wrap IntKind.i64 ((8 : Int) * t1))) (64 : Nat)) == (0 : Int)))) else (exit (false))) else (exit (false))))
noncomputable def nodeDfield_Fits_n0 (i : Ifield_Fits_n0) : Option Yfield_Fits_n0 := nodefield_Fits_n0 i some
theorem nodefield_Fits_n0_nat (i : Ifield_Fits_n0) (k : Yfield_Fits_n0 → Ans) : nodefield_Fits_n0 i k = bindO (nodeDfield_Fits_n0 i) k := by
  obtain ⟨t0, t1⟩ := i
  simp only [nodeDfield_Fits_n0, nodefield_Fits_n0, bindO_cond, bindO_assoc, bindO_none, bindO_pure, bindO_elim, bindO_unP]
theorem nodefield_Fits_n0_ok (i : Ifield_Fits_n0) (K : Ex → St → Ans) : codeI Tryd.tab envfield_Fits noHint (codeD Tryd.tab envfield_Fits noHint 0 64) 70 18 annLfield_Fits_n0 Lfield_Fits_n0 (weakP 0 (exk [4] [4] []) K) (Sfield_Fits_n0 i) = nodefield_Fits_n0 i (outfield_Fits_n0 i K) := by kernel_rfl
theorem GNfield_Fits_n0_ok : CSum Tryd.prog 18 Lfield_Fits_n0 (sumN decfield_Fits_n0 nodeDfield_Fits_n0 outfield_Fits_n0) := csum_node mixed tabOk envfield_FitsOk 0 (exk [4] [4] []) annLfield_Fits_n0_ok decfield_Fits_n0_ok nodefield_Fits_n0_ok nodefield_Fits_n0_nat
noncomputable def Gfield_Fits_n0 : (Ex → St → Ans) → St → Ans := (sumN decfield_Fits_n0 nodeDfield_Fits_n0 outfield_Fits_n0)
theorem Gfield_Fits_n0_ok : CSum Tryd.prog 18 Lfield_Fits_n0 Gfield_Fits_n0 := GNfield_Fits_n0_ok
noncomputable def annfield_Fits : Ann := (.seq .none (.seq (.cut 0 [0, 1] Gfield_Fits_n0) .none))
theorem annfield_Fits_ok : AnnOk Tryd.prog 18 bfield_Fits annfield_Fits := ⟨(annOk_none _ _ _), ⟨Gfield_Fits_n0_ok, (annOk_none _ _ _)⟩⟩
abbrev Afield_Fits := (Int) × (Int)
abbrev Yfield_Fits := (Bool)
noncomputable def fnfield_Fits {β : Type} : Afield_Fits → (Yfield_Fits → Option β) → Option β := fun (a0, a1) exit => (bindO (nodeDfield_Fits_n0 (a0, a1)) fun t4 => (exit (t4)))
noncomputable def fnDfield_Fits (a : Afield_Fits) : Option Yfield_Fits := fnfield_Fits a some
theorem fnfield_Fits_nat (a : Afield_Fits) (k : Yfield_Fits → Ans) : fnfield_Fits a k = bindO (fnDfield_Fits a) k := by
  obtain ⟨a0, a1⟩ := a
  simp only [fnDfield_Fits, fnfield_Fits, bindO_cond, bindO_assoc, bindO_none, bindO_pure, bindO_elim, bindO_unP]
def argsfield_Fits : Afield_Fits → List AV := fun (a0, a1) => [AV.int IntKind.i64 a0, AV.int IntKind.i64 a1]
def decAfield_Fits (l : List AV) : Option Afield_Fits := match l with
  | [AV.int IntKind.i64 a0, AV.int IntKind.i64 a1] => some (a0, a1)
  | _ => none
theorem decAfield_Fits_ok (l : List AV) (a : Afield_Fits) (h : decAfield_Fits l = some a) : l = argsfield_Fits a := by
  unfold decAfield_Fits at h
  split at h
  · cases h; rfl
  · cases h
def rendfield_Fits : Afield_Fits → Yfield_Fits → AV := fun (a0, a1) => fun r_y => AV.bool r_y
theorem rendfield_Fits_ok : ∀ (a : Afield_Fits) (y : Yfield_Fits), (rendfield_Fits a y).closed1 = true := by
  rintro ⟨a0, a1⟩ y <;> first | rfl | exact Empty.elim y
theorem fnfield_Fits_ok (a : Afield_Fits) : fnE Tryd.tab envfield_Fits noHint 0 70 30 Tryd.f30.ntmps Tryd.f30.results.toList annfield_Fits bfield_Fits (argsfield_Fits a) [] (fun v _ => some (v, [])) = fnfield_Fits a (fun y => some (rendfield_Fits a y, [])) := by kernel_rfl
noncomputable def vFfield_Fits (a : Afield_Fits) (K : AV → Ans) : Ans := bindO (fnDfield_Fits a) fun y => K (rendfield_Fits a y)
noncomputable def Ffield_Fits : List AV → (AV → Ans) → Ans := fun l K => bindO (decAfield_Fits l) fun a => vFfield_Fits a K
theorem Ffield_Fits_ok : PureOk Tryd.prog 30 Ffield_Fits := pure_mkD (hint := noHint) (d := 0) (n := 70) mixed tabOk envfield_FitsOk Tryd.func30 (bodySome (by kernel_rfl)) (by decide +kernel) annfield_Fits_ok decAfield_Fits_ok fnfield_Fits_ok fnfield_Fits_nat rendfield_Fits_ok
--@ field_Put
noncomputable def envfield_Put : Env := [(30, .pure Ffield_Fits)]
theorem envfield_PutOk : EnvOk Tryd.prog envfield_Put := EnvOk.cons Ffield_Fits_ok (EnvOk.nil)
noncomputable def bfield_Put : Code := Tryd.f14.body.getD .skip
noncomputable def Lfield_Put_n0 : Code := codeAt [1, 1, 1, 0, 1, 0, 0] bfield_Put
noncomputable def annLfield_Put_n0 : Ann := .at 0 [0, 1, 2, 7, 17, 18] (.loop .none)
theorem annLfield_Put_n0_ok : AnnOk Tryd.prog 37 (.loop Lfield_Put_n0) annLfield_Put_n0 := annOk_at (annOk_none _ _ _)
abbrev Ifield_Put_n0 := (List UInt8) × (Int) × (Int) × (Int)
abbrev Yfield_Put_n0 := (List Int)
abbrev Vfield_Put_n0 := (Int) × (List Int)
def Sfield_Put_n0 : Ifield_Put_n0 → Vfield_Put_n0 → St := fun (t0, t1, t2, t17) (t18, o0) => { env := [(0, AV.str t0), (1, AV.int IntKind.i64 t1), (2, AV.int IntKind.i64 t2), (7, AV.own 0), (17, AV.int IntKind.i64 t17), (18, AV.int IntKind.i64 t18)], stk := [[]], H := [Obj.arr (Ty.int IntKind.u8) o0], blk := 57344 }
def decfield_Put_n0 (s : St) : Option (Ifield_Put_n0 × Vfield_Put_n0) := match s with
  | { env := [(0, AV.str t0), (1, AV.int IntKind.i64 t1), (2, AV.int IntKind.i64 t2), (7, AV.own 0), (17, AV.int IntKind.i64 t17), (18, AV.int IntKind.i64 t18)], stk := [[]], H := [Obj.arr (Ty.int IntKind.u8) o0], blk := 57344 } => some ((t0, t1, t2, t17), (t18, o0))
  | _ => none
theorem decfield_Put_n0_ok (s : St) (x : Ifield_Put_n0 × Vfield_Put_n0) (h : decfield_Put_n0 s = some x) : s = Sfield_Put_n0 x.1 x.2 := by
  unfold decfield_Put_n0 at h
  split at h
  · cases h; rfl
  · cases h
def outfield_Put_n0 : Ifield_Put_n0 → (Ex → St → Ans) → Yfield_Put_n0 → Ans := fun (t0, t1, t2, t17) K => fun o0_y => K (Ex.exit 0) { env := [(0, AV.str t0), (7, AV.own 0)], stk := [[]], H := [Obj.arr (Ty.int IntKind.u8) o0_y], blk := 57344 }
noncomputable def stepfield_Put_n0 {β : Type} : Ifield_Put_n0 → Vfield_Put_n0 → (Vfield_Put_n0 → Option β) → (Yfield_Put_n0 → Option β) → Option β := fun (t0, t1, t2, t17) (t18, o0) next exit => (bif decide (t18 < t17) then (bif decide (IntKind.wrap IntKind.i64 ((8 : Int) * IntKind.wrap IntKind.i64 (IntKind.wrap IntKind.i64 (t2 - (1 : Int)) - t18)) < (0 : Int)) then none else (bif inR t18 (List.length o0) then (bindO (o0[Int.toNat t18]?) fun x => (next (IntKind.wrap IntKind.i64 (t18 + (1 : Int)), List.set o0 (Int.toNat t18) (IntKind.wrap IntKind.u8 (Int.fdiv t1 ((2 : Int) ^ min (Int.toNat (IntKind.wrap IntKind.i64 ((8 : Int) * IntKind.wrap IntKind.i64 (IntKind.wrap IntKind.i64 (t2 - (1 : Int)) - t18)))) (64 : Nat))))))) else none)) else (exit (o0)))
noncomputable def stepDfield_Put_n0 (i : Ifield_Put_n0) (v : Vfield_Put_n0) : Option (Vfield_Put_n0 ⊕ Yfield_Put_n0) := stepfield_Put_n0 i v (fun v => some (.inl v)) (fun y => some (.inr y))
theorem stepfield_Put_n0_nat (i : Ifield_Put_n0) (v : Vfield_Put_n0) (next : Vfield_Put_n0 → Ans) (exit : Yfield_Put_n0 → Ans) : stepfield_Put_n0 i v next exit = bindO (stepDfield_Put_n0 i v) (Sum.elim next exit) := by
  obtain ⟨t0, t1, t2, t17⟩ := i
  obtain ⟨t18, o0⟩ := v
  simp only [stepDfield_Put_n0, stepfield_Put_n0, bindO_cond, bindO_assoc, bindO_none, bindO_pure, bindO_elim, bindO_unP, Sum.elim_inl, Sum.elim_inr]
theorem stepfield_Put_n0_ok (n : Nat) (i : Ifield_Put_n0) (v : Vfield_Put_n0) (K : Ex → St → Ans) : codeI Tryd.tab envfield_Put noHint (codeD Tryd.tab envfield_Put noHint 0 64) (n+1) 37 annLfield_Put_n0 (.loop Lfield_Put_n0) (weakP 0 (exk [0, 7] [6] [(0, [0, 7])]) K) (Sfield_Put_n0 i v) = stepfield_Put_n0 i v (fun v' => codeI Tryd.tab envfield_Put noHint (codeD Tryd.tab envfield_Put noHint 0 64) n 37 annLfield_Put_n0 (.loop Lfield_Put_n0) (weakP 0 (exk [0, 7] [6] [(0, [0, 7])]) K) (Sfield_Put_n0 i v')) (fun y => outfield_Put_n0 i K y) := by kernel_rfl
theorem GNfield_Put_n0_ok : CSum Tryd.prog 37 (.loop Lfield_Put_n0) (sumL decfield_Put_n0 stepDfield_Put_n0 outfield_Put_n0) := csum_loop mixed tabOk envfield_PutOk 0 (exk [0, 7] [6] [(0, [0, 7])]) annLfield_Put_n0_ok decfield_Put_n0_ok stepfield_Put_n0_ok stepfield_Put_n0_nat
noncomputable def Gfield_Put_n0 : (Ex → St → Ans) → St → Ans := (sumL decfield_Put_n0 stepDfield_Put_n0 outfield_Put_n0)
theorem Gfield_Put_n0_ok : CSum Tryd.prog 37 (.loop Lfield_Put_n0) Gfield_Put_n0 := GNfield_Put_n0_ok
noncomputable def annfield_Put : Ann := (.seq .none (.seq .none (.seq .none (.seq (.seq .none (.block (.cut 0 [0, 1, 2, 7, 17, 18] Gfield_Put_n0))) .none))))
theorem annfield_Put_ok : AnnOk Tryd.prog 37 bfield_Put annfield_Put := ⟨(annOk_none _ _ _), ⟨(annOk_none _ _ _), ⟨(annOk_none _ _ _), ⟨⟨(annOk_none _ _ _), Gfield_Put_n0_ok⟩, (annOk_none _ _ _)⟩⟩⟩⟩
abbrev Afield_Put := (List UInt8) × (Int) × (Int)
abbrev Yfield_Put := (List UInt8)
noncomputable def fnfield_Put {β : Type} : Afield_Put → (Yfield_Put → Option β) → Option β := fun (a0, a1, a2) exit => (bindO (fnDfield_Fits (a1, a2)) fun r => (bif !r then (exit (a0)) else (bif decide ((0 : Int) ≤ a2) && decide (a2 ≤ a2) && decide ((1 : Int) * a2 ≤ (281474976710656 : Int)) && decide (a2 ≤ (9223372036854775807 : Int)) then (bindO (loopD (stepDfield_Put_n0 (a0, a1, a2, (↑(List.length (List.replicate (Int.toNat a2) (0 : Int))) : Int))) FUEL ((0 : Int), List.replicate (Int.toNat a2) (0 : Int))) fun o0 => (bif Nat.ble (List.length a0 + List.length (bytesOf o0)) (9223372036854775807 : Nat) then (exit (a0 ++ bytesOf o0)) else none)) else none)))
noncomputable def fnDfield_Put (a : Afield_Put) : Option Yfield_Put := fnfield_Put a some
theorem fnfield_Put_nat (a : Afield_Put) (k : Yfield_Put → Ans) : fnfield_Put a k = bindO (fnDfield_Put a) k := by
  obtain ⟨a0, a1, a2⟩ := a
  simp only [fnDfield_Put, fnfield_Put, bindO_cond, bindO_assoc, bindO_none, bindO_pure, bindO_elim, bindO_unP]
def argsfield_Put : Afield_Put → List AV := fun (a0, a1, a2) => [AV.str a0, AV.int IntKind.i64 a1, AV.int IntKind.i64 a2]
def decAfield_Put (l : List AV) : Option Afield_Put := match l with
  | [AV.str a0, AV.int IntKind.i64 a1, AV.int IntKind.i64 a2] => some (a0, a1, a2)
  | _ => none
theorem decAfield_Put_ok (l : List AV) (a : Afield_Put) (h : decAfield_Put l = some a) : l = argsfield_Put a := by
  unfold decAfield_Put at h
  split at h
  · cases h; rfl
  · cases h
def rendfield_Put : Afield_Put → Yfield_Put → AV := fun (a0, a1, a2) => fun r_y => AV.str r_y
theorem rendfield_Put_ok : ∀ (a : Afield_Put) (y : Yfield_Put), (rendfield_Put a y).closed1 = true := by
  rintro ⟨a0, a1, a2⟩ y <;> first | rfl | exact Empty.elim y
theorem fnfield_Put_ok (a : Afield_Put) : fnE Tryd.tab envfield_Put noHint 0 70 14 Tryd.f14.ntmps Tryd.f14.results.toList annfield_Put bfield_Put (argsfield_Put a) [] (fun v _ => some (v, [])) = fnfield_Put a (fun y => some (rendfield_Put a y, [])) := by kernel_rfl
noncomputable def vFfield_Put (a : Afield_Put) (K : AV → Ans) : Ans := bindO (fnDfield_Put a) fun y => K (rendfield_Put a y)
noncomputable def Ffield_Put : List AV → (AV → Ans) → Ans := fun l K => bindO (decAfield_Put l) fun a => vFfield_Put a K
theorem Ffield_Put_ok : PureOk Tryd.prog 14 Ffield_Put := pure_mkD (hint := noHint) (d := 0) (n := 70) mixed tabOk envfield_PutOk Tryd.func14 (bodySome (by kernel_rfl)) (by decide +kernel) annfield_Put_ok decAfield_Put_ok fnfield_Put_ok fnfield_Put_nat rendfield_Put_ok
--@ vector_Put
noncomputable def envvector_Put : Env := [(14, .pure Ffield_Put)]
theorem envvector_PutOk : EnvOk Tryd.prog envvector_Put := EnvOk.cons Ffield_Put_ok (EnvOk.nil)
noncomputable def bvector_Put : Code := Tryd.f13.body.getD .skip
noncomputable def annvector_Put : Ann := .none
theorem annvector_Put_ok : AnnOk Tryd.prog 12 bvector_Put annvector_Put := (annOk_none _ _ _)
abbrev Avector_Put := (List UInt8) × (Int) × (Int)
abbrev Yvector_Put := (List UInt8)
noncomputable def fnvector_Put {β : Type} : Avector_Put → (Yvector_Put → Option β) → Option β := fun (a0, a1_0, a1_1) exit => (bindO (fnDfield_Put (a0, a1_0, (7 : Int))) fun r => (bindO (fnDfield_Put (r, a1_1, (7 : Int))) fun r_2 => (exit (r_2))))
noncomputable def fnDvector_Put (a : Avector_Put) : Option Yvector_Put := fnvector_Put a some
theorem fnvector_Put_nat (a : Avector_Put) (k : Yvector_Put → Ans) : fnvector_Put a k = bindO (fnDvector_Put a) k := by
  obtain ⟨a0, a1_0, a1_1⟩ := a
  simp only [fnDvector_Put, fnvector_Put, bindO_cond, bindO_assoc, bindO_none, bindO_pure, bindO_elim, bindO_unP]
def argsvector_Put : Avector_Put → List AV := fun (a0, a1_0, a1_1) => [AV.str a0, AV.agg [AV.int IntKind.i64 a1_0, AV.int IntKind.i64 a1_1]]
def decAvector_Put (l : List AV) : Option Avector_Put := match l with
  | [AV.str a0, AV.agg [AV.int IntKind.i64 a1_0, AV.int IntKind.i64 a1_1]] => some (a0, a1_0, a1_1)
  | _ => none
theorem decAvector_Put_ok (l : List AV) (a : Avector_Put) (h : decAvector_Put l = some a) : l = argsvector_Put a := by
  unfold decAvector_Put at h
  split at h
  · cases h; rfl
  · cases h
def rendvector_Put : Avector_Put → Yvector_Put → AV := fun (a0, a1_0, a1_1) => fun r_y => AV.str r_y
theorem rendvector_Put_ok : ∀ (a : Avector_Put) (y : Yvector_Put), (rendvector_Put a y).closed1 = true := by
  rintro ⟨a0, a1_0, a1_1⟩ y <;> first | rfl | exact Empty.elim y
theorem fnvector_Put_ok (a : Avector_Put) : fnE Tryd.tab envvector_Put noHint 0 70 13 Tryd.f13.ntmps Tryd.f13.results.toList annvector_Put bvector_Put (argsvector_Put a) [] (fun v _ => some (v, [])) = fnvector_Put a (fun y => some (rendvector_Put a y, [])) := by kernel_rfl
noncomputable def vFvector_Put (a : Avector_Put) (K : AV → Ans) : Ans := bindO (fnDvector_Put a) fun y => K (rendvector_Put a y)
noncomputable def Fvector_Put : List AV → (AV → Ans) → Ans := fun l K => bindO (decAvector_Put l) fun a => vFvector_Put a K
theorem Fvector_Put_ok : PureOk Tryd.prog 13 Fvector_Put := pure_mkD (hint := noHint) (d := 0) (n := 70) mixed tabOk envvector_PutOk Tryd.func13 (bodySome (by kernel_rfl)) (by decide +kernel) annvector_Put_ok decAvector_Put_ok fnvector_Put_ok fnvector_Put_nat rendvector_Put_ok
--@ cyclic_New
noncomputable def envcyclic_New : Env := []
theorem envcyclic_NewOk : EnvOk Tryd.prog envcyclic_New := EnvOk.nil
noncomputable def bcyclic_New : Code := Tryd.f47.body.getD .skip
noncomputable def anncyclic_New : Ann := .none
theorem anncyclic_New_ok : AnnOk Tryd.prog 3 bcyclic_New anncyclic_New := (annOk_none _ _ _)
abbrev Acyclic_New := Unit
abbrev Ycyclic_New := Unit
noncomputable def fncyclic_New {β : Type} : Acyclic_New → (Ycyclic_New → Option β) → Option β := fun _ exit => (exit ())
noncomputable def fnDcyclic_New (a : Acyclic_New) : Option Ycyclic_New := fncyclic_New a some
theorem fncyclic_New_nat (a : Acyclic_New) (k : Ycyclic_New → Ans) : fncyclic_New a k = bindO (fnDcyclic_New a) k := by
  obtain z := a
  simp only [fnDcyclic_New, fncyclic_New, bindO_cond, bindO_assoc, bindO_none, bindO_pure, bindO_elim, bindO_unP]
def argscyclic_New : Acyclic_New → List AV × List AE.Obj := fun _ => ([], [])
def decAcyclic_New (l : List AV) (H : List AE.Obj) : Option Acyclic_New := match l, H with
  | [], [] => some ()
  | _, _ => none
theorem decAcyclic_New_ok (l : List AV) (H : List AE.Obj) (a : Acyclic_New) (h : decAcyclic_New l H = some a) : (l, H) = argscyclic_New a := by
  unfold decAcyclic_New at h
  split at h
  · cases h; rfl
  · cases h
def outcyclic_New : Acyclic_New → (AV → List AE.Obj → Ans) → Ycyclic_New → Ans := fun _ K => fun _ => K (AV.ptr 0 0) [AE.Obj.cells [AV.int IntKind.u32 (0)]]
theorem fncyclic_New_ok (a : Acyclic_New) (K : AV → List AE.Obj → Ans) : fnE Tryd.tab envcyclic_New noHint 0 70 47 Tryd.f47.ntmps Tryd.f47.results.toList anncyclic_New bcyclic_New (argscyclic_New a).1 (argscyclic_New a).2 K = fncyclic_New a (outcyclic_New a K) := by kernel_rfl
noncomputable def vFcyclic_New (a : Acyclic_New) (K : AV → List AE.Obj → Ans) : Ans := bindO (fnDcyclic_New a) fun y => outcyclic_New a K y
noncomputable def Fcyclic_New : List AV → List AE.Obj → (AV → List AE.Obj → Ans) → Ans := fun l H K => bindO (decAcyclic_New l H) fun a => vFcyclic_New a K
theorem Fcyclic_New_ok : FuncOk Tryd.prog 47 Fcyclic_New := func_mkD (hint := noHint) (d := 0) (n := 70) mixed tabOk envcyclic_NewOk Tryd.func47 (bodySome (by kernel_rfl)) (by decide +kernel) anncyclic_New_ok decAcyclic_New_ok fncyclic_New_ok fncyclic_New_nat
--@ cyclic_step
noncomputable def envcyclic_step : Env := []
theorem envcyclic_stepOk : EnvOk Tryd.prog envcyclic_step := EnvOk.nil
noncomputable def bcyclic_step : Code := Tryd.f60.body.getD .skip
noncomputable def Lcyclic_step_n0 : Code := codeAt [1, 1, 0, 1, 0, 0] bcyclic_step
noncomputable def annLcyclic_step_n0 : Ann := .at 0 [0, 9] (.loop .none)
theorem annLcyclic_step_n0_ok : AnnOk Tryd.prog 20 (.loop Lcyclic_step_n0) annLcyclic_step_n0 := annOk_at (annOk_none _ _ _)
abbrev Icyclic_step_n0 := Unit
abbrev Ycyclic_step_n0 := (Int)
abbrev Vcyclic_step_n0 := (Int) × (Int)
def Scyclic_step_n0 : Icyclic_step_n0 → Vcyclic_step_n0 → St := fun _ (t0, t9) => { env := [(0, AV.int IntKind.u32 t0), (9, AV.int IntKind.i64 t9)], stk := [[]], H := [], blk := 245760 }
def deccyclic_step_n0 (s : St) : Option (Icyclic_step_n0 × Vcyclic_step_n0) := match s with
  | { env := [(0, AV.int IntKind.u32 t0), (9, AV.int IntKind.i64 t9)], stk := [[]], H := [], blk := 245760 } => some ((), (t0, t9))
  | _ => none
theorem deccyclic_step_n0_ok (s : St) (x : Icyclic_step_n0 × Vcyclic_step_n0) (h : deccyclic_step_n0 s = some x) : s = Scyclic_step_n0 x.1 x.2 := by
  unfold deccyclic_step_n0 at h
  split at h
  · cases h; rfl
  · cases h
def outcyclic_step_n0 : Icyclic_step_n0 → (Ex → St → Ans) → Ycyclic_step_n0 → Ans := fun _ K => fun t0_y => K (Ex.exit 0) { env := [(0, AV.int IntKind.u32 t0_y)], stk := [[]], H := [], blk := 245760 }
noncomputable def stepcyclic_step_n0 {β : Type} : Icyclic_step_n0 → Vcyclic_step_n0 → (Vcyclic_step_n0 → Option β) → (Ycyclic_step_n0 → Option β) → Option β := fun _ (t0, t9) next exit => (bif decide (t9 < (8 : Int)) then (next (IntKind.wrap IntKind.u32 (↑(Int.toNat (Int.fdiv t0 (2 : Int) % (4294967296 : Int)) ^^^ Int.toNat (IntKind.wrap IntKind.u32 (↑((3988292384 : Nat) &&& Int.toNat (IntKind.wrap IntKind.u32 ((0 : Int) - IntKind.wrap IntKind.u32 (↑(Int.toNat (t0 % (4294967296 : Int)) &&& (1 : Nat)) : Int)) % (4294967296 : Int))) : Int) % (4294967296 : Int))) : Int), IntKind.wrap IntKind.i64 (t9 + (1 : Int)))) else (exit (t0)))
noncomputable def stepDcyclic_step_n0 (i : Icyclic_step_n0) (v : Vcyclic_step_n0) : Option (Vcyclic_step_n0 ⊕ Ycyclic_step_n0) := stepcyclic_step_n0 i v (fun v => some (.inl v)) (fun y => some (.inr y))
theorem stepcyclic_step_n0_nat (i : Icyclic_step_n0) (v : Vcyclic_step_n0) (next : Vcyclic_step_n0 → Ans) (exit : Ycyclic_step_n0 → Ans) : stepcyclic_step_n0 i v next exit = bindO (stepDcyclic_step_n0 i v) (Sum.elim next exit) := by
  obtain z := i
  obtain ⟨t0, t9⟩ := v
  simp only [stepDcyclic_step_n0, stepcyclic_step_n0, bindO_cond, bindO_assoc, bindO_none, bindO_pure, bindO_elim, bindO_unP, Sum.elim_inl, Sum.elim_inr]
theorem stepcyclic_step_n0_ok (n : Nat) (i : Icyclic_step_n0) (v : Vcyclic_step_n0) (K : Ex → St → Ans) : codeI Tryd.tab envcyclic_step noHint (codeD Tryd.tab envcyclic_step noHint 0 64) (n+1) 20 annLcyclic_step_n0 (.loop Lcyclic_step_n0) (weakP 0 (exk [0] [4] [(0, [0])]) K) (Scyclic_step_n0 i v) = stepcyclic_step_n0 i v (fun v' => codeI Tryd.tab envcyclic_step noHint (codeD Tryd.tab envcyclic_step noHint 0 64) n 20 annLcyclic_step_n0 (.loop Lcyclic_step_n0) (weakP 0 (exk [0] [4] [(0, [0])]) K) (Scyclic_step_n0 i v')) (fun y => outcyclic_step_n0 i K y) := by kernel_rfl
theorem GNcyclic_step_n0_ok : CSum Tryd.prog 20 (.loop Lcyclic_step_n0) (sumL deccyclic_step_n0 stepDcyclic_step_n0 outcyclic_step_n0) := csum_loop mixed tabOk envcyclic_stepOk 0 (exk [0] [4] [(0, [0])]) annLcyclic_step_n0_ok deccyclic_step_n0_ok stepcyclic_step_n0_ok stepcyclic_step_n0_nat
noncomputable def Gcyclic_step_n0 : (Ex → St → Ans) → St → Ans := (sumL deccyclic_step_n0 stepDcyclic_step_n0 outcyclic_step_n0)
theorem Gcyclic_step_n0_ok : CSum Tryd.prog 20 (.loop Lcyclic_step_n0) Gcyclic_step_n0 := GNcyclic_step_n0_ok
noncomputable def anncyclic_step : Ann := (.seq .none (.seq .none (.seq (.seq .none (.block (.cut 0 [0, 9] Gcyclic_step_n0))) .none)))
theorem anncyclic_step_ok : AnnOk Tryd.prog 20 bcyclic_step anncyclic_step := ⟨(annOk_none _ _ _), ⟨(annOk_none _ _ _), ⟨⟨(annOk_none _ _ _), Gcyclic_step_n0_ok⟩, (annOk_none _ _ _)⟩⟩⟩
abbrev Acyclic_step := (Int) × (Int)
abbrev Ycyclic_step := (Int)
noncomputable def fncyclic_step {β : Type} : Acyclic_step → (Ycyclic_step → Option β) → Option β := fun (a0, a1) exit => (bindO (loopD (stepDcyclic_step_n0 ()) FUEL (IntKind.wrap IntKind.u32 (↑(Int.toNat (a0 % (4294967296 : Int)) ^^^ Int.toNat (IntKind.wrap IntKind.u32 a1 % (4294967296 : Int))) : Int), (0 : Int))) fun t0 => (exit (t0)))
noncomputable def fnDcyclic_step (a : Acyclic_step) : Option Ycyclic_step := fncyclic_step a some
theorem fncyclic_step_nat (a : Acyclic_step) (k : Ycyclic_step → Ans) : fncyclic_step a k = bindO (fnDcyclic_step a) k := by
  obtain ⟨a0, a1⟩ := a
  simp only [fnDcyclic_step, fncyclic_step, bindO_cond, bindO_assoc, bindO_none, bindO_pure, bindO_elim, bindO_unP]
def argscyclic_step : Acyclic_step → List AV := fun (a0, a1) => [AV.int IntKind.u32 a0, AV.int IntKind.u8 a1]
def decAcyclic_step (l : List AV) : Option Acyclic_step := match l with
  | [AV.int IntKind.u32 a0, AV.int IntKind.u8 a1] => some (a0, a1)
  | _ => none
theorem decAcyclic_step_ok (l : List AV) (a : Acyclic_step) (h : decAcyclic_step l = some a) : l = argscyclic_step a := by
  unfold decAcyclic_step at h
  split at h
  · cases h; rfl
  · cases h
def rendcyclic_step : Acyclic_step → Ycyclic_step → AV := fun (a0, a1) => fun r_y => AV.int IntKind.u32 r_y
theorem rendcyclic_step_ok : ∀ (a : Acyclic_step) (y : Ycyclic_step), (rendcyclic_step a y).closed1 = true := by
  rintro ⟨a0, a1⟩ y <;> first | rfl | exact Empty.elim y
theorem fncyclic_step_ok (a : Acyclic_step) : fnE Tryd.tab envcyclic_step noHint 0 70 60 Tryd.f60.ntmps Tryd.f60.results.toList anncyclic_step bcyclic_step (argscyclic_step a) [] (fun v _ => some (v, [])) = fncyclic_step a (fun y => some (rendcyclic_step a y, [])) := by kernel_rfl
noncomputable def vFcyclic_step (a : Acyclic_step) (K : AV → Ans) : Ans := bindO (fnDcyclic_step a) fun y => K (rendcyclic_step a y)
noncomputable def Fcyclic_step : List AV → (AV → Ans) → Ans := fun l K => bindO (decAcyclic_step l) fun a => vFcyclic_step a K
theorem Fcyclic_step_ok : PureOk Tryd.prog 60 Fcyclic_step := pure_mkD (hint := noHint) (d := 0) (n := 70) mixed tabOk envcyclic_stepOk Tryd.func60 (bodySome (by kernel_rfl)) (by decide +kernel) anncyclic_step_ok decAcyclic_step_ok fncyclic_step_ok fncyclic_step_nat rendcyclic_step_ok
--@ cyclic_State_Add
noncomputable def envcyclic_State_Add : Env := [(60, .pure Fcyclic_step)]
theorem envcyclic_State_AddOk : EnvOk Tryd.prog envcyclic_State_Add := EnvOk.cons Fcyclic_step_ok (EnvOk.nil)
noncomputable def bcyclic_State_Add : Code := Tryd.f48.body.getD .skip
noncomputable def Lcyclic_State_Add_n0 : Code := codeAt [1, 1, 0, 1, 0, 0] bcyclic_State_Add
noncomputable def annLcyclic_State_Add_n0 : Ann := .at 1 [0, 1, 4, 14, 15] (.loop .none)
theorem annLcyclic_State_Add_n0_ok : AnnOk Tryd.prog 29 (.loop Lcyclic_State_Add_n0) annLcyclic_State_Add_n0 := annOk_at (annOk_none _ _ _)
abbrev Icyclic_State_Add_n0 := (List UInt8) × (Int) × (Int)
abbrev Ycyclic_State_Add_n0 := (Int)
abbrev Vcyclic_State_Add_n0 := (Int) × (Int)
def Scyclic_State_Add_n0 : Icyclic_State_Add_n0 → Vcyclic_State_Add_n0 → St := fun (t1, t14, o0_0) (t4, t15) => { env := [(0, AV.ptr 0 0), (1, AV.str t1), (4, AV.int IntKind.u32 t4), (14, AV.int IntKind.i64 t14), (15, AV.int IntKind.i64 t15)], stk := [[(0, AV.ptr 0 0)]], H := [AE.Obj.cells [AV.int IntKind.u32 o0_0]], blk := 196608 }
def deccyclic_State_Add_n0 (s : St) : Option (Icyclic_State_Add_n0 × Vcyclic_State_Add_n0) := match s with
  | { env := [(0, AV.ptr 0 0), (1, AV.str t1), (4, AV.int IntKind.u32 t4), (14, AV.int IntKind.i64 t14), (15, AV.int IntKind.i64 t15)], stk := [[(0, AV.ptr 0 0)]], H := [AE.Obj.cells [AV.int IntKind.u32 o0_0]], blk := 196608 } => some ((t1, t14, o0_0), (t4, t15))
  | _ => none
theorem deccyclic_State_Add_n0_ok (s : St) (x : Icyclic_State_Add_n0 × Vcyclic_State_Add_n0) (h : deccyclic_State_Add_n0 s = some x) : s = Scyclic_State_Add_n0 x.1 x.2 := by
  unfold deccyclic_State_Add_n0 at h
  split at h
  · cases h; rfl
  · cases h
def outcyclic_State_Add_n0 : Icyclic_State_Add_n0 → (Ex → St → Ans) → Ycyclic_State_Add_n0 → Ans := fun (t1, t14, o0_0) K => fun t4_y => K (Ex.exit 0) { env := [(0, AV.ptr 0 0), (4, AV.int IntKind.u32 t4_y)], stk := [[(0, AV.ptr 0 0)]], H := [AE.Obj.cells [AV.int IntKind.u32 o0_0]], blk := 196608 }
noncomputable def stepcyclic_State_Add_n0 {β : Type} : Icyclic_State_Add_n0 → Vcyclic_State_Add_n0 → (Vcyclic_State_Add_n0 → Option β) → (Ycyclic_State_Add_n0 → Option β) → Option β := fun (t1, t14, o0_0) (t4, t15) next exit => (bif decide (t15 < t14) then (bindO (nth t1 t15) fun x => (bindO (fnDcyclic_step (t4, (↑(UInt8.toNat x) : Int))) fun r => (next (r, IntKind.wrap IntKind.i64 (t15 + (1 : Int)))))) else (exit (t4)))
noncomputable def stepDcyclic_State_Add_n0 (i : Icyclic_State_Add_n0) (v : Vcyclic_State_Add_n0) : Option (Vcyclic_State_Add_n0 ⊕ Ycyclic_State_Add_n0) := stepcyclic_State_Add_n0 i v (fun v => some (.inl v)) (fun y => some (.inr y))
theorem stepcyclic_State_Add_n0_nat (i : Icyclic_State_Add_n0) (v : Vcyclic_State_Add_n0) (next : Vcyclic_State_Add_n0 → Ans) (exit : Ycyclic_State_Add_n0 → Ans) : stepcyclic_State_Add_n0 i v next exit = bindO (stepDcyclic_State_Add_n0 i v) (Sum.elim next exit) := by
  obtain ⟨t1, t14, o0_0⟩ := i
  obtain ⟨t4, t15⟩ := v
  simp only [stepDcyclic_State_Add_n0, stepcyclic_State_Add_n0, bindO_cond, bindO_assoc, bindO_none, bindO_pure, bindO_elim, bindO_unP, Sum.elim_inl, Sum.elim_inr]
theorem stepcyclic_State_Add_n0_ok (n : Nat) (i : Icyclic_State_Add_n0) (v : Vcyclic_State_Add_n0) (K : Ex → St → Ans) : codeI Tryd.tab envcyclic_State_Add noHint (codeD Tryd.tab envcyclic_State_Add noHint 0 64) (n+1) 29 annLcyclic_State_Add_n0 (.loop Lcyclic_State_Add_n0) (weakP 1 (exk [0, 4] [] [(0, [0, 4])]) K) (Scyclic_State_Add_n0 i v) = stepcyclic_State_Add_n0 i v (fun v' => codeI Tryd.tab envcyclic_State_Add noHint (codeD Tryd.tab envcyclic_State_Add noHint 0 64) n 29 annLcyclic_State_Add_n0 (.loop Lcyclic_State_Add_n0) (weakP 1 (exk [0, 4] [] [(0, [0, 4])]) K) (Scyclic_State_Add_n0 i v')) (fun y => outcyclic_State_Add_n0 i K y) := by kernel_rfl
theorem GNcyclic_State_Add_n0_ok : CSum Tryd.prog 29 (.loop Lcyclic_State_Add_n0) (sumL deccyclic_State_Add_n0 stepDcyclic_State_Add_n0 outcyclic_State_Add_n0) := csum_loop mixed tabOk envcyclic_State_AddOk 1 (exk [0, 4] [] [(0, [0, 4])]) annLcyclic_State_Add_n0_ok deccyclic_State_Add_n0_ok stepcyclic_State_Add_n0_ok stepcyclic_State_Add_n0_nat
noncomputable def Gcyclic_State_Add_n0 : (Ex → St → Ans) → St → Ans := (sumL deccyclic_State_Add_n0 stepDcyclic_State_Add_n0 outcyclic_State_Add_n0)
theorem Gcyclic_State_Add_n0_ok : CSum Tryd.prog 29 (.loop Lcyclic_State_Add_n0) Gcyclic_State_Add_n0 := GNcyclic_State_Add_n0_ok
noncomputable def anncyclic_State_Add : Ann := (.seq .none (.seq .none (.seq (.seq .none (.block (.cut 1 [0, 1, 4, 14, 15] Gcyclic_State_Add_n0))) .none)))
theorem anncyclic_State_Add_ok : AnnOk Tryd.prog 29 bcyclic_State_Add anncyclic_State_Add := ⟨(annOk_none _ _ _), ⟨(annOk_none _ _ _), ⟨⟨(annOk_none _ _ _), Gcyclic_State_Add_n0_ok⟩, (annOk_none _ _ _)⟩⟩⟩
abbrev Acyclic_State_Add := (List UInt8) × (Int)
abbrev Ycyclic_State_Add := (Int)
noncomputable def fncyclic_State_Add {β : Type} : Acyclic_State_Add → (Ycyclic_State_Add → Option β) → Option β := fun (a1, o0_0) exit => (bindO (loopD (stepDcyclic_State_Add_n0 (a1, (↑(List.length a1) : Int), o0_0)) FUEL (IntKind.wrap IntKind.u32 (↑(Int.toNat (o0_0 % (4294967296 : Int)) ^^^ (4294967295 : Nat)) : Int), (0 : Int))) fun t4 => (exit (IntKind.wrap IntKind.u32 (↑(Int.toNat (t4 % (4294967296 : Int)) ^^^ (4294967295 : Nat)) : Int))))
noncomputable def fnDcyclic_State_Add (a : Acyclic_State_Add) : Option Ycyclic_State_Add := fncyclic_State_Add a some
theorem fncyclic_State_Add_nat (a : Acyclic_State_Add) (k : Ycyclic_State_Add → Ans) : fncyclic_State_Add a k = bindO (fnDcyclic_State_Add a) k := by
  obtain ⟨a1, o0_0⟩ := a
  simp only [fnDcyclic_State_Add, fncyclic_State_Add, bindO_cond, bindO_assoc, bindO_none, bindO_pure, bindO_elim, bindO_unP]
def argscyclic_State_Add : Acyclic_State_Add → List AV × List AE.Obj := fun (a1, o0_0) => ([AV.ptr 0 0, AV.str a1], [AE.Obj.cells [AV.int IntKind.u32 o0_0]])
def decAcyclic_State_Add (l : List AV) (H : List AE.Obj) : Option Acyclic_State_Add := match l, H with
  | [AV.ptr 0 0, AV.str a1], [AE.Obj.cells [AV.int IntKind.u32 o0_0]] => some (a1, o0_0)
  | _, _ => none
theorem decAcyclic_State_Add_ok (l : List AV) (H : List AE.Obj) (a : Acyclic_State_Add) (h : decAcyclic_State_Add l H = some a) : (l, H) = argscyclic_State_Add a := by
  unfold decAcyclic_State_Add at h
  split at h
  · cases h; rfl
  · cases h
def outcyclic_State_Add : Acyclic_State_Add → (AV → List AE.Obj → Ans) → Ycyclic_State_Add → Ans := fun (a1, o0_0) K => fun o0_0_y => K (AV.tup []) [AE.Obj.cells [AV.int IntKind.u32 o0_0_y]]
theorem fncyclic_State_Add_ok (a : Acyclic_State_Add) (K : AV → List AE.Obj → Ans) : fnE Tryd.tab envcyclic_State_Add noHint 0 70 48 Tryd.f48.ntmps Tryd.f48.results.toList anncyclic_State_Add bcyclic_State_Add (argscyclic_State_Add a).1 (argscyclic_State_Add a).2 K = fncyclic_State_Add a (outcyclic_State_Add a K) := by kernel_rfl
noncomputable def vFcyclic_State_Add (a : Acyclic_State_Add) (K : AV → List AE.Obj → Ans) : Ans := bindO (fnDcyclic_State_Add a) fun y => outcyclic_State_Add a K y
noncomputable def Fcyclic_State_Add : List AV → List AE.Obj → (AV → List AE.Obj → Ans) → Ans := fun l H K => bindO (decAcyclic_State_Add l H) fun a => vFcyclic_State_Add a K
theorem Fcyclic_State_Add_ok : FuncOk Tryd.prog 48 Fcyclic_State_Add := func_mkD (hint := noHint) (d := 0) (n := 70) mixed tabOk envcyclic_State_AddOk Tryd.func48 (bodySome (by kernel_rfl)) (by decide +kernel) anncyclic_State_Add_ok decAcyclic_State_Add_ok fncyclic_State_Add_ok fncyclic_State_Add_nat
--@ cyclic_State_Sum
noncomputable def envcyclic_State_Sum : Env := []
theorem envcyclic_State_SumOk : EnvOk Tryd.prog envcyclic_State_Sum := EnvOk.nil
noncomputable def bcyclic_State_Sum : Code := Tryd.f49.body.getD .skip
noncomputable def anncyclic_State_Sum : Ann := .none
theorem anncyclic_State_Sum_ok : AnnOk Tryd.prog 10 bcyclic_State_Sum anncyclic_State_Sum := (annOk_none _ _ _)
abbrev Acyclic_State_Sum := (Int)
abbrev Ycyclic_State_Sum := (Int)
noncomputable def fncyclic_State_Sum {β : Type} : Acyclic_State_Sum → (Ycyclic_State_Sum → Option β) → Option β := fun o0_0 exit => (exit (IntKind.wrap IntKind.i64 o0_0))
noncomputable def fnDcyclic_State_Sum (a : Acyclic_State_Sum) : Option Ycyclic_State_Sum := fncyclic_State_Sum a some
theorem fncyclic_State_Sum_nat (a : Acyclic_State_Sum) (k : Ycyclic_State_Sum → Ans) : fncyclic_State_Sum a k = bindO (fnDcyclic_State_Sum a) k := by
  obtain z := a
  simp only [fnDcyclic_State_Sum, fncyclic_State_Sum, bindO_cond, bindO_assoc, bindO_none, bindO_pure, bindO_elim, bindO_unP]
def argscyclic_State_Sum : Acyclic_State_Sum → List AV × List AE.Obj := fun o0_0 => ([AV.ptr 0 0], [AE.Obj.cells [AV.int IntKind.u32 o0_0]])
def decAcyclic_State_Sum (l : List AV) (H : List AE.Obj) : Option Acyclic_State_Sum := match l, H with
  | [AV.ptr 0 0], [AE.Obj.cells [AV.int IntKind.u32 o0_0]] => some (o0_0)
  | _, _ => none
theorem decAcyclic_State_Sum_ok (l : List AV) (H : List AE.Obj) (a : Acyclic_State_Sum) (h : decAcyclic_State_Sum l H = some a) : (l, H) = argscyclic_State_Sum a := by
  unfold decAcyclic_State_Sum at h
  split at h
  · cases h; rfl
  · cases h
def outcyclic_State_Sum : Acyclic_State_Sum → (AV → List AE.Obj → Ans) → Ycyclic_State_Sum → Ans := fun o0_0 K => fun r_y => K (AV.int IntKind.i64 r_y) [AE.Obj.cells [AV.int IntKind.u32 o0_0]]
theorem fncyclic_State_Sum_ok (a : Acyclic_State_Sum) (K : AV → List AE.Obj → Ans) : fnE Tryd.tab envcyclic_State_Sum noHint 0 70 49 Tryd.f49.ntmps Tryd.f49.results.toList anncyclic_State_Sum bcyclic_State_Sum (argscyclic_State_Sum a).1 (argscyclic_State_Sum a).2 K = fncyclic_State_Sum a (outcyclic_State_Sum a K) := by kernel_rfl
noncomputable def vFcyclic_State_Sum (a : Acyclic_State_Sum) (K : AV → List AE.Obj → Ans) : Ans := bindO (fnDcyclic_State_Sum a) fun y => outcyclic_State_Sum a K y
noncomputable def Fcyclic_State_Sum : List AV → List AE.Obj → (AV → List AE.Obj → Ans) → Ans := fun l H K => bindO (decAcyclic_State_Sum l H) fun a => vFcyclic_State_Sum a K
theorem Fcyclic_State_Sum_ok : FuncOk Tryd.prog 49 Fcyclic_State_Sum := func_mkD (hint := noHint) (d := 0) (n := 70) mixed tabOk envcyclic_State_SumOk Tryd.func49 (bodySome (by kernel_rfl)) (by decide +kernel) anncyclic_State_Sum_ok decAcyclic_State_Sum_ok fncyclic_State_Sum_ok fncyclic_State_Sum_nat
--@ cyclic_Of
noncomputable def envcyclic_Of : Env := [(47, .func Fcyclic_New), (48, .func Fcyclic_State_Add), (49, .func Fcyclic_State_Sum)]
theorem envcyclic_OfOk : EnvOk Tryd.prog envcyclic_Of := EnvOk.cons Fcyclic_New_ok (EnvOk.cons Fcyclic_State_Add_ok (EnvOk.cons Fcyclic_State_Sum_ok (EnvOk.nil)))
noncomputable def bcyclic_Of : Code := Tryd.f31.body.getD .skip
noncomputable def anncyclic_Of : Ann := .none
theorem anncyclic_Of_ok : AnnOk Tryd.prog 10 bcyclic_Of anncyclic_Of := (annOk_none _ _ _)
abbrev Acyclic_Of := (List UInt8)
abbrev Ycyclic_Of := (Int)
noncomputable def fncyclic_Of {β : Type} : Acyclic_Of → (Ycyclic_Of → Option β) → Option β := fun a0 exit => (bindO (fnDcyclic_New ()) fun _ => (bindO (fnDcyclic_State_Add (a0, (0 : Int))) fun o0_0 => (bindO (fnDcyclic_State_Sum (o0_0)) fun r => (exit (r)))))
noncomputable def fnDcyclic_Of (a : Acyclic_Of) : Option Ycyclic_Of := fncyclic_Of a some
theorem fncyclic_Of_nat (a : Acyclic_Of) (k : Ycyclic_Of → Ans) : fncyclic_Of a k = bindO (fnDcyclic_Of a) k := by
  obtain z := a
  simp only [fnDcyclic_Of, fncyclic_Of, bindO_cond, bindO_assoc, bindO_none, bindO_pure, bindO_elim, bindO_unP]
def argscyclic_Of : Acyclic_Of → List AV := fun a0 => [AV.str a0]
def decAcyclic_Of (l : List AV) : Option Acyclic_Of := match l with
  | [AV.str a0] => some (a0)
  | _ => none
theorem decAcyclic_Of_ok (l : List AV) (a : Acyclic_Of) (h : decAcyclic_Of l = some a) : l = argscyclic_Of a := by
  unfold decAcyclic_Of at h
  split at h
  · cases h; rfl
  · cases h
def rendcyclic_Of : Acyclic_Of → Ycyclic_Of → AV := fun a0 => fun r_y => AV.int IntKind.i64 r_y
theorem rendcyclic_Of_ok : ∀ (a : Acyclic_Of) (y : Ycyclic_Of), (rendcyclic_Of a y).closed1 = true := by
  rintro z y <;> first | rfl | exact Empty.elim y
theorem fncyclic_Of_ok (a : Acyclic_Of) : fnE Tryd.tab envcyclic_Of noHint 0 70 31 Tryd.f31.ntmps Tryd.f31.results.toList anncyclic_Of bcyclic_Of (argscyclic_Of a) [] (fun v _ => some (v, [])) = fncyclic_Of a (fun y => some (rendcyclic_Of a y, [])) := by kernel_rfl
noncomputable def vFcyclic_Of (a : Acyclic_Of) (K : AV → Ans) : Ans := bindO (fnDcyclic_Of a) fun y => K (rendcyclic_Of a y)
noncomputable def Fcyclic_Of : List AV → (AV → Ans) → Ans := fun l K => bindO (decAcyclic_Of l) fun a => vFcyclic_Of a K
theorem Fcyclic_Of_ok : PureOk Tryd.prog 31 Fcyclic_Of := pure_mkD (hint := noHint) (d := 0) (n := 70) mixed tabOk envcyclic_OfOk Tryd.func31 (bodySome (by kernel_rfl)) (by decide +kernel) anncyclic_Of_ok decAcyclic_Of_ok fncyclic_Of_ok fncyclic_Of_nat rendcyclic_Of_ok
--@ cyclic_Tail
noncomputable def envcyclic_Tail : Env := [(31, .pure Fcyclic_Of)]
theorem envcyclic_TailOk : EnvOk Tryd.prog envcyclic_Tail := EnvOk.cons Fcyclic_Of_ok (EnvOk.nil)
noncomputable def bcyclic_Tail : Code := Tryd.f15.body.getD .skip
noncomputable def Lcyclic_Tail_n1 : Code := codeAt [1, 1, 1, 0, 1, 0, 0] bcyclic_Tail
noncomputable def annLcyclic_Tail_n1 : Ann := .none
theorem annLcyclic_Tail_n1_ok : AnnOk Tryd.prog 21 Lcyclic_Tail_n1 annLcyclic_Tail_n1 := (annOk_none _ _ _)
abbrev Icyclic_Tail_n1 := (Int) × (Int) × (Int) × (Int) × (Int)
abbrev Ycyclic_Tail_n1 := Unit
def Scyclic_Tail_n1 : Icyclic_Tail_n1 → St := fun (t3, o0_0, o0_1, o0_2, o0_3) => { env := [(3, AV.int IntKind.i64 t3), (4, AV.ptr 0 0), (8, AV.int IntKind.i64 (4))], stk := [[]], H := [AE.Obj.cells [AV.int IntKind.u8 o0_0, AV.int IntKind.u8 o0_1, AV.int IntKind.u8 o0_2, AV.int IntKind.u8 o0_3]], blk := 61440 }
def deccyclic_Tail_n1 (s : St) : Option Icyclic_Tail_n1 := match s with
  | { env := [(3, AV.int IntKind.i64 t3), (4, AV.ptr 0 0), (8, AV.int IntKind.i64 r1)], stk := [[]], H := [AE.Obj.cells [AV.int IntKind.u8 o0_0, AV.int IntKind.u8 o0_1, AV.int IntKind.u8 o0_2, AV.int IntKind.u8 o0_3]], blk := 61440 } => cond (decide (r1 = 4)) (some (t3, o0_0, o0_1, o0_2, o0_3)) none
  | _ => none
theorem deccyclic_Tail_n1_ok (s : St) (x : Icyclic_Tail_n1) (h : deccyclic_Tail_n1 s = some x) : s = Scyclic_Tail_n1 x := by
  unfold deccyclic_Tail_n1 at h
  split at h
  · replace h := cond_noneO h; obtain ⟨hg, h⟩ := h; simp only [Bool.and_eq_true, decide_eq_true_eq] at hg; simp only [hg]; cases h; rfl
  · cases h
def outcyclic_Tail_n1 : Icyclic_Tail_n1 → (Ex → St → Ans) → Ycyclic_Tail_n1 → Ans := fun (t3, o0_0, o0_1, o0_2, o0_3) K => fun _ => K (Ex.exit 0) { env := [(4, AV.ptr 0 0)], stk := [[]], H := [AE.Obj.cells [AV.int IntKind.u8 o0_0, AV.int IntKind.u8 o0_1, AV.int IntKind.u8 o0_2, AV.int IntKind.u8 o0_3]], blk := 61440 }
noncomputable def nodecyclic_Tail_n1 {β : Type} : Icyclic_Tail_n1 → (Ycyclic_Tail_n1 → Option β) → Option β := fun (t3, o0_0, o0_1, o0_2, o0_3) exit => (exit ())
noncomputable def nodeDcyclic_Tail_n1 (i : Icyclic_Tail_n1) : Option Ycyclic_Tail_n1 := nodecyclic_Tail_n1 i some
theorem nodecyclic_Tail_n1_nat (i : Icyclic_Tail_n1) (k : Ycyclic_Tail_n1 → Ans) : nodecyclic_Tail_n1 i k = bindO (nodeDcyclic_Tail_n1 i) k := by
  obtain ⟨t3, o0_0, o0_1, o0_2, o0_3⟩ := i
  simp only [nodeDcyclic_Tail_n1, nodecyclic_Tail_n1, bindO_cond, bindO_assoc, bindO_none, bindO_pure, bindO_elim, bindO_unP]
theorem nodecyclic_Tail_n1_ok (i : Icyclic_Tail_n1) (K : Ex → St → Ans) : codeI Tryd.tab envcyclic_Tail noHint (codeD Tryd.tab envcyclic_Tail noHint 0 64) 70 21 annLcyclic_Tail_n1 Lcyclic_Tail_n1 (weakP 0 (exk [3, 4, 8] [2] [(0, [4])]) K) (Scyclic_Tail_n1 i) = nodecyclic_Tail_n1 i (outcyclic_Tail_n1 i K) := by kernel_rfl
theorem GNcyclic_Tail_n1_ok : CSum Tryd.prog 21 Lcyclic_Tail_n1 (sumN deccyclic_Tail_n1 nodeDcyclic_Tail_n1 outcyclic_Tail_n1) := csum_node mixed tabOk envcyclic_TailOk 0 (exk [3, 4, 8] [2] [(0, [4])]) annLcyclic_Tail_n1_ok deccyclic_Tail_n1_ok nodecyclic_Tail_n1_ok nodecyclic_Tail_n1_nat
abbrev Icyclic_Tail_n1v1 := (Int) × (Int) × (Int) × (Int) × (Int)
abbrev Ycyclic_Tail_n1v1 := (Int)
def Scyclic_Tail_n1v1 : Icyclic_Tail_n1v1 → St := fun (t3, o0_0, o0_1, o0_2, o0_3) => { env := [(3, AV.int IntKind.i64 t3), (4, AV.ptr 0 0), (8, AV.int IntKind.i64 (0))], stk := [[]], H := [AE.Obj.cells [AV.int IntKind.u8 o0_0, AV.int IntKind.u8 o0_1, AV.int IntKind.u8 o0_2, AV.int IntKind.u8 o0_3]], blk := 61440 }
def deccyclic_Tail_n1v1 (s : St) : Option Icyclic_Tail_n1v1 := match s with
  | { env := [(3, AV.int IntKind.i64 t3), (4, AV.ptr 0 0), (8, AV.int IntKind.i64 r1)], stk := [[]], H := [AE.Obj.cells [AV.int IntKind.u8 o0_0, AV.int IntKind.u8 o0_1, AV.int IntKind.u8 o0_2, AV.int IntKind.u8 o0_3]], blk := 61440 } => cond (decide (r1 = 0)) (some (t3, o0_0, o0_1, o0_2, o0_3)) none
  | _ => none
theorem deccyclic_Tail_n1v1_ok (s : St) (x : Icyclic_Tail_n1v1) (h : deccyclic_Tail_n1v1 s = some x) : s = Scyclic_Tail_n1v1 x := by
  unfold deccyclic_Tail_n1v1 at h
  split at h
  · replace h := cond_noneO h; obtain ⟨hg, h⟩ := h; simp only [Bool.and_eq_true, decide_eq_true_eq] at hg; simp only [hg]; cases h; rfl
  · cases h
def outcyclic_Tail_n1v1 : Icyclic_Tail_n1v1 → (Ex → St → Ans) → Ycyclic_Tail_n1v1 → Ans := fun (t3, o0_0, o0_1, o0_2, o0_3) K => fun o0_0_y => K (Ex.norm) { env := [(3, AV.int IntKind.i64 t3), (4, AV.ptr 0 0), (8, AV.int IntKind.i64 (1))], stk := [[]], H := [AE.Obj.cells [AV.int IntKind.u8 o0_0_y, AV.int IntKind.u8 o0_1, AV.int IntKind.u8 o0_2, AV.int IntKind.u8 o0_3]], blk := 61441 }
noncomputable def nodecyclic_Tail_n1v1 {β : Type} : Icyclic_Tail_n1v1 → (Ycyclic_Tail_n1v1 → Option β) → Option β := fun (t3, o0_0, o0_1, o0_2, o0_3) exit => (exit (IntKind.wrap IntKind.u8 (Int.fdiv t3 (1 : Int))))
noncomputable def nodeDcyclic_Tail_n1v1 (i : Icyclic_Tail_n1v1) : Option Ycyclic_Tail_n1v1 := nodecyclic_Tail_n1v1 i some
theorem nodecyclic_Tail_n1v1_nat (i : Icyclic_Tail_n1v1) (k : Ycyclic_Tail_n1v1 → Ans) : nodecyclic_Tail_n1v1 i k = bindO (nodeDcyclic_Tail_n1v1 i) k := by
  obtain ⟨t3, o0_0, o0_1, o0_2, o0_3⟩ := i
  simp only [nodeDcyclic_Tail_n1v1, nodecyclic_Tail_n1v1, bindO_cond, bindO_assoc, bindO_none, bindO_pure, bindO_elim, bindO_unP]
theorem nodecyclic_Tail_n1v1_ok (i : Icyclic_Tail_n1v1) (K : Ex → St → Ans) : codeI Tryd.tab envcyclic_Tail noHint (codeD Tryd.tab envcyclic_Tail noHint 0 64) 70 21 annLcyclic_Tail_n1 Lcyclic_Tail_n1 (weakP 0 (exk [3, 4, 8] [2] [(0, [4])]) K) (Scyclic_Tail_n1v1 i) = nodecyclic_Tail_n1v1 i (outcyclic_Tail_n1v1 i K) := by kernel_rfl
theorem GNcyclic_Tail_n1v1_ok : CSum Tryd.prog 21 Lcyclic_Tail_n1 (sumN deccyclic_Tail_n1v1 nodeDcyclic_Tail_n1v1 outcyclic_Tail_n1v1) := csum_node mixed tabOk envcyclic_TailOk 0 (exk [3, 4, 8] [2] [(0, [4])]) annLcyclic_Tail_n1_ok deccyclic_Tail_n1v1_ok nodecyclic_Tail_n1v1_ok nodecyclic_Tail_n1v1_nat
abbrev Icyclic_Tail_n1v2 := (Int) × (Int) × (Int) × (Int) × (Int)
abbrev Ycyclic_Tail_n1v2 := (Int)
def Scyclic_Tail_n1v2 : Icyclic_Tail_n1v2 → St := fun (t3, o0_0, o0_1, o0_2, o0_3) => { env := [(3, AV.int IntKind.i64 t3), (4, AV.ptr 0 0), (8, AV.int IntKind.i64 (1))], stk := [[]], H := [AE.Obj.cells [AV.int IntKind.u8 o0_0, AV.int IntKind.u8 o0_1, AV.int IntKind.u8 o0_2, AV.int IntKind.u8 o0_3]], blk := 61440 }
def deccyclic_Tail_n1v2 (s : St) : Option Icyclic_Tail_n1v2 := match s with
  | { env := [(3, AV.int IntKind.i64 t3), (4, AV.ptr 0 0), (8, AV.int IntKind.i64 r1)], stk := [[]], H := [AE.Obj.cells [AV.int IntKind.u8 o0_0, AV.int IntKind.u8 o0_1, AV.int IntKind.u8 o0_2, AV.int IntKind.u8 o0_3]], blk := 61440 } => cond (decide (r1 = 1)) (some (t3, o0_0, o0_1, o0_2, o0_3)) none
  | _ => none
theorem deccyclic_Tail_n1v2_ok (s : St) (x : Icyclic_Tail_n1v2) (h : deccyclic_Tail_n1v2 s = some x) : s = Scyclic_Tail_n1v2 x := by
  unfold deccyclic_Tail_n1v2 at h
  split at h
  · replace h := cond_noneO h; obtain ⟨hg, h⟩ := h; simp only [Bool.and_eq_true, decide_eq_true_eq] at hg; simp only [hg]; cases h; rfl
  · cases h
def outcyclic_Tail_n1v2 : Icyclic_Tail_n1v2 → (Ex → St → Ans) → Ycyclic_Tail_n1v2 → Ans := fun (t3, o0_0, o0_1, o0_2, o0_3) K => fun o0_1_y => K (Ex.norm) { env := [(3, AV.int IntKind.i64 t3), (4, AV.ptr 0 0), (8, AV.int IntKind.i64 (2))], stk := [[]], H := [AE.Obj.cells [AV.int IntKind.u8 o0_0, AV.int IntKind.u8 o0_1_y, AV.int IntKind.u8 o0_2, AV.int IntKind.u8 o0_3]], blk := 61441 }
noncomputable def nodecyclic_Tail_n1v2 {β : Type} : Icyclic_Tail_n1v2 → (Ycyclic_Tail_n1v2 → Option β) → Option β := fun (t3, o0_0, o0_1, o0_2, o0_3) exit => (exit (IntKind.wrap IntKind.u8 (Int.fdiv t3 (256 : Int))))
noncomputable def nodeDcyclic_Tail_n1v2 (i : Icyclic_Tail_n1v2) : Option Ycyclic_Tail_n1v2 := nodecyclic_Tail_n1v2 i some
theorem nodecyclic_Tail_n1v2_nat (i : Icyclic_Tail_n1v2) (k : Ycyclic_Tail_n1v2 → Ans) : nodecyclic_Tail_n1v2 i k = bindO (nodeDcyclic_Tail_n1v2 i) k := by
  obtain ⟨t3, o0_0, o0_1, o0_2, o0_3⟩ := i
  simp only [nodeDcyclic_Tail_n1v2, nodecyclic_Tail_n1v2, bindO_cond, bindO_assoc, bindO_none, bindO_pure, bindO_elim, bindO_unP]
theorem nodecyclic_Tail_n1v2_ok (i : Icyclic_Tail_n1v2) (K : Ex → St → Ans) : codeI Tryd.tab envcyclic_Tail noHint (codeD Tryd.tab envcyclic_Tail noHint 0 64) 70 21 annLcyclic_Tail_n1 Lcyclic_Tail_n1 (weakP 0 (exk [3, 4, 8] [2] [(0, [4])]) K) (Scyclic_Tail_n1v2 i) = nodecyclic_Tail_n1v2 i (outcyclic_Tail_n1v2 i K) := by kernel_rfl
theorem GNcyclic_Tail_n1v2_ok : CSum Tryd.prog 21 Lcyclic_Tail_n1 (sumN deccyclic_Tail_n1v2 nodeDcyclic_Tail_n1v2 outcyclic_Tail_n1v2) := csum_node mixed tabOk envcyclic_TailOk 0 (exk [3, 4, 8] [2] [(0, [4])]) annLcyclic_Tail_n1_ok deccyclic_Tail_n1v2_ok nodecyclic_Tail_n1v2_ok nodecyclic_Tail_n1v2_nat
abbrev Icyclic_Tail_n1v3 := (Int) × (Int) × (Int) × (Int) × (Int)
abbrev Ycyclic_Tail_n1v3 := (Int)
def Scyclic_Tail_n1v3 : Icyclic_Tail_n1v3 → St := fun (t3, o0_0, o0_1, o0_2, o0_3) => { env := [(3, AV.int IntKind.i64 t3), (4, AV.ptr 0 0), (8, AV.int IntKind.i64 (2))], stk := [[]], H := [AE.Obj.cells [AV.int IntKind.u8 o0_0, AV.int IntKind.u8 o0_1, AV.int IntKind.u8 o0_2, AV.int IntKind.u8 o0_3]], blk := 61440 }
def deccyclic_Tail_n1v3 (s : St) : Option Icyclic_Tail_n1v3 := match s with
  | { env := [(3, AV.int IntKind.i64 t3), (4, AV.ptr 0 0), (8, AV.int IntKind.i64 r1)], stk := [[]], H := [AE.Obj.cells [AV.int IntKind.u8 o0_0, AV.int IntKind.u8 o0_1, AV.int IntKind.u8 o0_2, AV.int IntKind.u8 o0_3]], blk := 61440 } => cond (decide (r1 = 2)) (some (t3, o0_0, o0_1, o0_2, o0_3)) none
  | _ => none
theorem deccyclic_Tail_n1v3_ok (s : St) (x : Icyclic_Tail_n1v3) (h : deccyclic_Tail_n1v3 s = some x) : s = Scyclic_Tail_n1v3 x := by
  unfold deccyclic_Tail_n1v3 at h
  split at h
  · replace h := cond_noneO h; obtain ⟨hg, h⟩ := h; simp only [Bool.and_eq_true, decide_eq_true_eq] at hg; simp only [hg]; cases h; rfl
  · cases h
def outcyclic_Tail_n1v3 : Icyclic_Tail_n1v3 → (Ex → St → Ans) → Ycyclic_Tail_n1v3 → Ans := fun (t3, o0_0, o0_1, o0_2, o0_3) K => fun o0_2_y => K (Ex.norm) { env := [(3, AV.int IntKind.i64 t3), (4, AV.ptr 0 0), (8, AV.int IntKind.i64 (3))], stk := [[]], H := [AE.Obj.cells [AV.int IntKind.u8 o0_0, AV.int IntKind.u8 o0_1, AV.int IntKind.u8 o0_2_y, AV.int IntKind.u8 o0_3]], blk := 61441 }
noncomputable def nodecyclic_Tail_n1v3 {β : Type} : Icyclic_Tail_n1v3 → (Ycyclic_Tail_n1v3 → Option β) → Option β := fun (t3, o0_0, o0_1, o0_2, o0_3) exit => (exit (IntKind.wrap IntKind.u8 (Int.fdiv t3 (65536 : Int))))
noncomputable def nodeDcyclic_Tail_n1v3 (i : Icyclic_Tail_n1v3) : Option Ycyclic_Tail_n1v3 := nodecyclic_Tail_n1v3 i some
theorem nodecyclic_Tail_n1v3_nat (i : Icyclic_Tail_n1v3) (k : Ycyclic_Tail_n1v3 → Ans) : nodecyclic_Tail_n1v3 i k = bindO (nodeDcyclic_Tail_n1v3 i) k := by
  obtain ⟨t3, o0_0, o0_1, o0_2, o0_3⟩ := i
  simp only [nodeDcyclic_Tail_n1v3, nodecyclic_Tail_n1v3, bindO_cond, bindO_assoc, bindO_none, bindO_pure, bindO_elim, bindO_unP]
theorem nodecyclic_Tail_n1v3_ok (i : Icyclic_Tail_n1v3) (K : Ex → St → Ans) : codeI Tryd.tab envcyclic_Tail noHint (codeD Tryd.tab envcyclic_Tail noHint 0 64) 70 21 annLcyclic_Tail_n1 Lcyclic_Tail_n1 (weakP 0 (exk [3, 4, 8] [2] [(0, [4])]) K) (Scyclic_Tail_n1v3 i) = nodecyclic_Tail_n1v3 i (outcyclic_Tail_n1v3 i K) := by kernel_rfl
theorem GNcyclic_Tail_n1v3_ok : CSum Tryd.prog 21 Lcyclic_Tail_n1 (sumN deccyclic_Tail_n1v3 nodeDcyclic_Tail_n1v3 outcyclic_Tail_n1v3) := csum_node mixed tabOk envcyclic_TailOk 0 (exk [3, 4, 8] [2] [(0, [4])]) annLcyclic_Tail_n1_ok deccyclic_Tail_n1v3_ok nodecyclic_Tail_n1v3_ok nodecyclic_Tail_n1v3_nat
abbrev Icyclic_Tail_n1v4 := (Int) × (Int) × (Int) × (Int) × (Int)
abbrev Ycyclic_Tail_n1v4 := (Int)
def Scyclic_Tail_n1v4 : Icyclic_Tail_n1v4 → St := fun (t3, o0_0, o0_1, o0_2, o0_3) => { env := [(3, AV.int IntKind.i64 t3), (4, AV.ptr 0 0), (8, AV.int IntKind.i64 (3))], stk := [[]], H := [AE.Obj.cells [AV.int IntKind.u8 o0_0, AV.int IntKind.u8 o0_1, AV.int IntKind.u8 o0_2, AV.int IntKind.u8 o0_3]], blk := 61440 }
def deccyclic_Tail_n1v4 (s : St) : Option Icyclic_Tail_n1v4 := match s with
  | { env := [(3, AV.int IntKind.i64 t3), (4, AV.ptr 0 0), (8, AV.int IntKind.i64 r1)], stk := [[]], H := [AE.Obj.cells [AV.int IntKind.u8 o0_0, AV.int IntKind.u8 o0_1, AV.int IntKind.u8 o0_2, AV.int IntKind.u8 o0_3]], blk := 61440 } => cond (decide (r1 = 3)) (some (t3, o0_0, o0_1, o0_2, o0_3)) none
  | _ => none
theorem deccyclic_Tail_n1v4_ok (s : St) (x : Icyclic_Tail_n1v4) (h : deccyclic_Tail_n1v4 s = some x) : s = Scyclic_Tail_n1v4 x := by
  unfold deccyclic_Tail_n1v4 at h
  split at h
  · replace h := cond_noneO h; obtain ⟨hg, h⟩ := h; simp only [Bool.and_eq_true, decide_eq_true_eq] at hg; simp only [hg]; cases h; rfl
  · cases h
def outcyclic_Tail_n1v4 : Icyclic_Tail_n1v4 → (Ex → St → Ans) → Ycyclic_Tail_n1v4 → Ans := fun (t3, o0_0, o0_1, o0_2, o0_3) K => fun o0_3_y => K (Ex.norm) { env := [(3, AV.int IntKind.i64 t3), (4, AV.ptr 0 0), (8, AV.int IntKind.i64 (4))], stk := [[]], H := [AE.Obj.cells [AV.int IntKind.u8 o0_0, AV.int IntKind.u8 o0_1, AV.int IntKind.u8 o0_2, AV.int IntKind.u8 o0_3_y]], blk := 61441 }
noncomputable def nodecyclic_Tail_n1v4 {β : Type} : Icyclic_Tail_n1v4 → (Ycyclic_Tail_n1v4 → Option β) → Option β := fun (t3, o0_0, o0_1, o0_2, o0_3) exit => (exit (IntKind.wrap IntKind.u8 (Int.fdiv t3 (16777216 : Int))))
noncomputable def nodeDcyclic_Tail_n1v4 (i : Icyclic_Tail_n1v4) : Option Ycyclic_Tail_n1v4 := nodecyclic_Tail_n1v4 i some
theorem nodecyclic_Tail_n1v4_nat (i : Icyclic_Tail_n1v4) (k : Ycyclic_Tail_n1v4 → Ans) : nodecyclic_Tail_n1v4 i k = bindO (nodeDcyclic_Tail_n1v4 i) k := by
  obtain ⟨t3, o0_0, o0_1, o0_2, o0_3⟩ := i
  simp only [nodeDcyclic_Tail_n1v4, nodecyclic_Tail_n1v4, bindO_cond, bindO_assoc, bindO_none, bindO_pure, bindO_elim, bindO_unP]
theorem nodecyclic_Tail_n1v4_ok (i : Icyclic_Tail_n1v4) (K : Ex → St → Ans) : codeI Tryd.tab envcyclic_Tail noHint (codeD Tryd.tab envcyclic_Tail noHint 0 64) 70 21 annLcyclic_Tail_n1 Lcyclic_Tail_n1 (weakP 0 (exk [3, 4, 8] [2] [(0, [4])]) K) (Scyclic_Tail_n1v4 i) = nodecyclic_Tail_n1v4 i (outcyclic_Tail_n1v4 i K) := by kernel_rfl
theorem GNcyclic_Tail_n1v4_ok : CSum Tryd.prog 21 Lcyclic_Tail_n1 (sumN deccyclic_Tail_n1v4 nodeDcyclic_Tail_n1v4 outcyclic_Tail_n1v4) := csum_node mixed tabOk envcyclic_TailOk 0 (exk [3, 4, 8] [2] [(0, [4])]) annLcyclic_Tail_n1_ok deccyclic_Tail_n1v4_ok nodecyclic_Tail_n1v4_ok nodecyclic_Tail_n1v4_nat
noncomputable def Gcyclic_Tail_n1 : (Ex → St → Ans) → St → Ans := (altN deccyclic_Tail_n1 (sumN deccyclic_Tail_n1 nodeDcyclic_Tail_n1 outcyclic_Tail_n1) (altN deccyclic_Tail_n1v1 (sumN deccyclic_Tail_n1v1 nodeDcyclic_Tail_n1v1 outcyclic_Tail_n1v1) (altN deccyclic_Tail_n1v2 (sumN deccyclic_Tail_n1v2 nodeDcyclic_Tail_n1v2 outcyclic_Tail_n1v2) (altN deccyclic_Tail_n1v3 (sumN deccyclic_Tail_n1v3 nodeDcyclic_Tail_n1v3 outcyclic_Tail_n1v3) (sumN deccyclic_Tail_n1v4 nodeDcyclic_Tail_n1v4 outcyclic_Tail_n1v4)))))
theorem Gcyclic_Tail_n1_ok : CSum Tryd.prog 21 Lcyclic_Tail_n1 Gcyclic_Tail_n1 := (csum_altN GNcyclic_Tail_n1_ok (csum_altN GNcyclic_Tail_n1v1_ok (csum_altN GNcyclic_Tail_n1v2_ok (csum_altN GNcyclic_Tail_n1v3_ok GNcyclic_Tail_n1v4_ok))))
noncomputable def Lcyclic_Tail_n0 : Code := codeAt [1, 1, 1, 0, 1] bcyclic_Tail
noncomputable def annLcyclic_Tail_n0 : Ann := (.block (.at 0 [3, 4, 8] (.loop (.cut 0 [3, 4, 8] Gcyclic_Tail_n1))))
theorem annLcyclic_Tail_n0_ok : AnnOk Tryd.prog 21 Lcyclic_Tail_n0 annLcyclic_Tail_n0 := (annOk_at Gcyclic_Tail_n1_ok)
abbrev Icyclic_Tail_n0 := (Int)
abbrev Ycyclic_Tail_n0 := (Int) × (Int) × (Int) × (Int)
def Scyclic_Tail_n0 : Icyclic_Tail_n0 → St := fun t3 => { env := [(3, AV.int IntKind.i64 t3), (4, AV.ptr 0 0), (8, AV.int IntKind.i64 (0))], stk := [[]], H := [AE.Obj.cells [AV.int IntKind.u8 (0), AV.int IntKind.u8 (0), AV.int IntKind.u8 (0), AV.int IntKind.u8 (0)]], blk := 61440 }
def deccyclic_Tail_n0 (s : St) : Option Icyclic_Tail_n0 := match s with
  | { env := [(3, AV.int IntKind.i64 t3), (4, AV.ptr 0 0), (8, AV.int IntKind.i64 r1)], stk := [[]], H := [AE.Obj.cells [AV.int IntKind.u8 r2, AV.int IntKind.u8 r3, AV.int IntKind.u8 r4, AV.int IntKind.u8 r5]], blk := 61440 } => cond (decide (r1 = 0) && decide (r2 = 0) && decide (r3 = 0) && decide (r4 = 0) && decide (r5 = 0)) (some (t3)) none
  | _ => none
theorem deccyclic_Tail_n0_ok (s : St) (x : Icyclic_Tail_n0) (h : deccyclic_Tail_n0 s = some x) : s = Scyclic_Tail_n0 x := by
  unfold deccyclic_Tail_n0 at h
  split at h
  · replace h := cond_noneO h; obtain ⟨hg, h⟩ := h; simp only [Bool.and_eq_true, decide_eq_true_eq] at hg; simp only [hg]; cases h; rfl
  · cases h
def outcyclic_Tail_n0 : Icyclic_Tail_n0 → (Ex → St → Ans) → Ycyclic_Tail_n0 → Ans := fun t3 K => unP fun o0_0_y => unP fun o0_1_y => unP fun o0_2_y o0_3_y => K (Ex.norm) { env := [(4, AV.ptr 0 0)], stk := [[]], H := [AE.Obj.cells [AV.int IntKind.u8 o0_0_y, AV.int IntKind.u8 o0_1_y, AV.int IntKind.u8 o0_2_y, AV.int IntKind.u8 o0_3_y]], blk := 61440 }
noncomputable def nodecyclic_Tail_n0 {β : Type} : Icyclic_Tail_n0 → (Ycyclic_Tail_n0 → Option β) → Option β := fun t3 exit => (bindO (nodeDcyclic_Tail_n1v1 (t3, (0 : Int), (0 : Int), (0 : Int), (0 : Int))) fun o0_0 => (bindO (nodeDcyclic_Tail_n1v2 (t3, o0_0, (0 : Int), (0 : Int), (0 : Int))) fun o0_1 => (bindO (nodeDcyclic_Tail_n1v3 (t3, o0_0, o0_1, (0 : Int), (0 : Int))) fun o0_2 => (bindO (nodeDcyclic_Tail_n1v4 (t3, o0_0, o0_1, o0_2, (0 : Int))) fun o0_3 => (bindO (nodeDcyclic_Tail_n1 (t3, o0_0, o0_1, o0_2, o0_3)) fun _ => (exit (o0_0, o0_1, o0_2, o0_3)))))))
noncomputable def nodeDcyclic_Tail_n0 (i : Icyclic_Tail_n0) : Option Ycyclic_Tail_n0 := nodecyclic_Tail_n0 i some
theorem nodecyclic_Tail_n0_nat (i : Icyclic_Tail_n0) (k : Ycyclic_Tail_n0 → Ans) : nodecyclic_Tail_n0 i k = bindO (nodeDcyclic_Tail_n0 i) k := by
  obtain z := i
  simp only [nodeDcyclic_Tail_n0, nodecyclic_Tail_n0, bindO_cond, bindO_assoc, bindO_none, bindO_pure, bindO_elim, bindO_unP]
theorem nodecyclic_Tail_n0_ok (i : Icyclic_Tail_n0) (K : Ex → St → Ans) : codeI Tryd.tab envcyclic_Tail noHint (codeD Tryd.tab envcyclic_Tail noHint 0 64) 70 21 annLcyclic_Tail_n0 Lcyclic_Tail_n0 (weakP 0 (exk [4] [2] []) K) (Scyclic_Tail_n0 i) = nodecyclic_Tail_n0 i (outcyclic_Tail_n0 i K) := by kernel_rfl
theorem GNcyclic_Tail_n0_ok : CSum Tryd.prog 21 Lcyclic_Tail_n0 (sumN deccyclic_Tail_n0 nodeDcyclic_Tail_n0 outcyclic_Tail_n0) := csum_node mixed tabOk envcyclic_TailOk 0 (exk [4] [2] []) annLcyclic_Tail_n0_ok deccyclic_Tail_n0_ok nodecyclic_Tail_n0_ok nodecyclic_Tail_n0_nat
noncomputable def Gcyclic_Tail_n0 : (Ex → St → Ans) → St → Ans := (sumN deccyclic_Tail_n0 nodeDcyclic_Tail_n0 outcyclic_Tail_n0)
theorem Gcyclic_Tail_n0_ok : CSum Tryd.prog 21 Lcyclic_Tail_n0 Gcyclic_Tail_n0 := GNcyclic_Tail_n0_ok
noncomputable def anncyclic_Tail : Ann := (.seq .none (.seq .none (.seq .none (.seq (.seq .none (.cut 0 [3, 4, 8] Gcyclic_Tail_n0)) .none))))
theorem anncyclic_Tail_ok : AnnOk Tryd.prog 21 bcyclic_Tail anncyclic_Tail := ⟨(annOk_none _ _ _), ⟨(annOk_none _ _ _), ⟨(annOk_none _ _ _), ⟨⟨(annOk_none _ _ _), Gcyclic_Tail_n0_ok⟩, (annOk_none _ _ _)⟩⟩⟩⟩
abbrev Acyclic_Tail := (List UInt8)
abbrev Ycyclic_Tail := (List UInt8)
noncomputable def fncyclic_Tail {β : Type} : Acyclic_Tail → (Ycyclic_Tail → Option β) → Option β := fun a0 exit => (bindO (fnDcyclic_Of (a0)) fun r => (bindO (nodeDcyclic_Tail_n0 (r)) (unP fun o0_0 => unP fun o0_1 => unP fun o0_2 o0_3 => (exit (bytesOf [o0_0, o0_1, o0_2, o0_3])))))
noncomputable def fnDcyclic_Tail (a : Acyclic_Tail) : Option Ycyclic_Tail := fncyclic_Tail a some
theorem fncyclic_Tail_nat (a : Acyclic_Tail) (k : Ycyclic_Tail → Ans) : fncyclic_Tail a k = bindO (fnDcyclic_Tail a) k := by
  obtain z := a
  simp only [fnDcyclic_Tail, fncyclic_Tail, bindO_cond, bindO_assoc, bindO_none, bindO_pure, bindO_elim, bindO_unP]
def argscyclic_Tail : Acyclic_Tail → List AV := fun a0 => [AV.str a0]
def decAcyclic_Tail (l : List AV) : Option Acyclic_Tail := match l with
  | [AV.str a0] => some (a0)
  | _ => none
theorem decAcyclic_Tail_ok (l : List AV) (a : Acyclic_Tail) (h : decAcyclic_Tail l = some a) : l = argscyclic_Tail a := by
  unfold decAcyclic_Tail at h
  split at h
  · cases h; rfl
  · cases h
def rendcyclic_Tail : Acyclic_Tail → Ycyclic_Tail → AV := fun a0 => fun r_y => AV.str r_y
theorem rendcyclic_Tail_ok : ∀ (a : Acyclic_Tail) (y : Ycyclic_Tail), (rendcyclic_Tail a y).closed1 = true := by
  rintro z y <;> first | rfl | exact Empty.elim y
theorem fncyclic_Tail_ok (a : Acyclic_Tail) : fnE Tryd.tab envcyclic_Tail noHint 0 70 15 Tryd.f15.ntmps Tryd.f15.results.toList anncyclic_Tail bcyclic_Tail (argscyclic_Tail a) [] (fun v _ => some (v, [])) = fncyclic_Tail a (fun y => some (rendcyclic_Tail a y, [])) := by kernel_rfl
noncomputable def vFcyclic_Tail (a : Acyclic_Tail) (K : AV → Ans) : Ans := bindO (fnDcyclic_Tail a) fun y => K (rendcyclic_Tail a y)
noncomputable def Fcyclic_Tail : List AV → (AV → Ans) → Ans := fun l K => bindO (decAcyclic_Tail l) fun a => vFcyclic_Tail a K
theorem Fcyclic_Tail_ok : PureOk Tryd.prog 15 Fcyclic_Tail := pure_mkD (hint := noHint) (d := 0) (n := 70) mixed tabOk envcyclic_TailOk Tryd.func15 (bodySome (by kernel_rfl)) (by decide +kernel) anncyclic_Tail_ok decAcyclic_Tail_ok fncyclic_Tail_ok fncyclic_Tail_nat rendcyclic_Tail_ok
--@ region_Pad
noncomputable def envregion_Pad : Env := [(32, .pure Fstrings_Repeat)]
theorem envregion_PadOk : EnvOk Tryd.prog envregion_Pad := EnvOk.cons Fstrings_Repeat_ok (EnvOk.nil)
noncomputable def bregion_Pad : Code := Tryd.f16.body.getD .skip
noncomputable def annregion_Pad : Ann := .none
theorem annregion_Pad_ok : AnnOk Tryd.prog 15 bregion_Pad annregion_Pad := (annOk_none _ _ _)
abbrev Aregion_Pad := (List UInt8)
abbrev Yregion_Pad := (List UInt8)
noncomputable def fnregion_Pad {β : Type} : Aregion_Pad → (Yregion_Pad → Option β) → Option β := fun a0 exit => (bif decide (Int.tmod (↑(List.length a0) : Int) (64 : Int) > (0 : Int)) then (bindO (fnDstrings_Repeat ([(0 : UInt8)], IntKind.wrap IntKind.i64 ((64 : Int) - Int.tmod (↑(List.length a0) : Int) (64 : Int)))) fun r => (bif Nat.ble (List.length a0 + List.length r) (9223372036854775807 : Nat) then (exit (a0 ++ r)) else none)) else (exit (a0)))
noncomputable def fnDregion_Pad (a : Aregion_Pad) : Option Yregion_Pad := fnregion_Pad a some
theorem fnregion_Pad_nat (a : Aregion_Pad) (k : Yregion_Pad → Ans) : fnregion_Pad a k = bindO (fnDregion_Pad a) k := by
  obtain z := a
  simp only [fnDregion_Pad, fnregion_Pad, bindO_cond, bindO_assoc, bindO_none, bindO_pure, bindO_elim, bindO_unP]
def argsregion_Pad : Aregion_Pad → List AV := fun a0 => [AV.str a0]
def decAregion_Pad (l : List AV) : Option Aregion_Pad := match l with
  | [AV.str a0] => some (a0)
  | _ => none
theorem decAregion_Pad_ok (l : List AV) (a : Aregion_Pad) (h : decAregion_Pad l = some a) : l = argsregion_Pad a := by
  unfold decAregion_Pad at h
  split at h
  · cases h; rfl
  · cases h
def rendregion_Pad : Aregion_Pad → Yregion_Pad → AV := fun a0 => fun r_y => AV.str r_y
theorem rendregion_Pad_ok : ∀ (a : Aregion_Pad) (y : Yregion_Pad), (rendregion_Pad a y).closed1 = true := by
  rintro z y <;> first | rfl | exact Empty.elim y
theorem fnregion_Pad_ok (a : Aregion_Pad) : fnE Tryd.tab envregion_Pad noHint 0 70 16 Tryd.f16.ntmps Tryd.f16.results.toList annregion_Pad bregion_Pad (argsregion_Pad a) [] (fun v _ => some (v, [])) = fnregion_Pad a (fun y => some (rendregion_Pad a y, [])) := by kernel_rfl
noncomputable def vFregion_Pad (a : Aregion_Pad) (K : AV → Ans) : Ans := bindO (fnDregion_Pad a) fun y => K (rendregion_Pad a y)
noncomputable def Fregion_Pad : List AV → (AV → Ans) → Ans := fun l K => bindO (decAregion_Pad l) fun a => vFregion_Pad a K
theorem Fregion_Pad_ok : PureOk Tryd.prog 16 Fregion_Pad := pure_mkD (hint := noHint) (d := 0) (n := 70) mixed tabOk envregion_PadOk Tryd.func16 (bodySome (by kernel_rfl)) (by decide +kernel) annregion_Pad_ok decAregion_Pad_ok fnregion_Pad_ok fnregion_Pad_nat rendregion_Pad_ok
--@ slot_Put
noncomputable def envslot_Put : Env := [(9, .pure Fslot_Check), (14, .pure Ffield_Put), (13, .pure Fvector_Put), (15, .pure Fcyclic_Tail), (16, .pure Fregion_Pad)]
theorem envslot_PutOk : EnvOk Tryd.prog envslot_Put := EnvOk.cons Fslot_Check_ok (EnvOk.cons Ffield_Put_ok (EnvOk.cons Fvector_Put_ok (EnvOk.cons Fcyclic_Tail_ok (EnvOk.cons Fregion_Pad_ok (EnvOk.nil)))))
noncomputable def bslot_Put : Code := Tryd.f7.body.getD .skip
noncomputable def annslot_Put : Ann := .none
theorem annslot_Put_ok : AnnOk Tryd.prog 41 bslot_Put annslot_Put := (annOk_none _ _ _)
abbrev Aslot_Put := (Int) × (Int) × (Int) × (List UInt8) × (Int) × (Int) × (List UInt8)
abbrev Yslot_Put := (List UInt8) × (Int)
noncomputable def fnslot_Put {β : Type} : Aslot_Put → (Yslot_Put → Option β) → Option β := fun (a0_0, a0_1, a0_2, a0_3, a0_4, a0_5, a0_6) exit => (bindO (fnDslot_Check (a0_0, a0_1, a0_2, a0_3, a0_4, a0_5, a0_6)) fun r => (bif r != (0 : Int) then (exit ([], r)) else (bindO (fnDfield_Put ([(81 : UInt8)], a0_0, (1 : Int))) fun r_2 => (bindO (fnDvector_Put (r_2, a0_1, a0_2)) fun r_3 => (bindO (fnDvector_Put (r_3, a0_4, a0_5)) fun r_4 => (bif Nat.ble (List.length a0_3 + List.length a0_6) (9223372036854775807 : Nat) then (bindO (fnDcyclic_Tail (a0_3 ++ a0_6)) fun r_5 => (bif Nat.ble (List.length r_4 + List.length r_5) (9223372036854775807 : Nat) then (bindO (fnDcyclic_Tail (r_4 ++ r_5)) fun r_6 => (bif Nat.ble (List.length (r_4 ++ r_5) + List.length r_6) (9223372036854775807 : Nat) then (bindO (fnDregion_Pad (r_4 ++ r_5 ++ r_6)) fun r_7 => (bif Nat.ble (List.length r_7 + List.length (a0_3 ++ a0_6)) (9223372036854775807 : Nat) then (exit (r_7 ++ (a0_3 ++ a0_6), (0 : Int))) else none)) else none)) else none)) else none))))))
theorem fnDslot_Put_ex (a : Aslot_Put) : ∃ y, y = (fnslot_Put a some : Option Yslot_Put) := ⟨_, rfl⟩
noncomputable def fnDslot_Put (a : Aslot_Put) : Option Yslot_Put := Classical.choose (fnDslot_Put_ex a)
theorem fnDslot_Put_is (a : Aslot_Put) : fnDslot_Put a = fnslot_Put a some := Classical.choose_spec (fnDslot_Put_ex a)
theorem fnslot_Put_nat (a : Aslot_Put) (k : Yslot_Put → Ans) : fnslot_Put a k = bindO (fnDslot_Put a) k := by
  obtain ⟨a0_0, a0_1, a0_2, a0_3, a0_4, a0_5, a0_6⟩ := a
  simp only [fnDslot_Put_is, fnslot_Put, bindO_cond, bindO_assoc, bindO_none, bindO_pure, bindO_elim, bindO_unP]
def argsslot_Put : Aslot_Put → List AV := fun (a0_0, a0_1, a0_2, a0_3, a0_4, a0_5, a0_6) => [AV.agg [AV.int IntKind.i64 a0_0, AV.int IntKind.i64 a0_1, AV.int IntKind.i64 a0_2, AV.str a0_3, AV.int IntKind.i64 a0_4, AV.int IntKind.i64 a0_5, AV.str a0_6]]
def decAslot_Put (l : List AV) : Option Aslot_Put := match l with
  | [AV.agg [AV.int IntKind.i64 a0_0, AV.int IntKind.i64 a0_1, AV.int IntKind.i64 a0_2, AV.str a0_3, AV.int IntKind.i64 a0_4, AV.int IntKind.i64 a0_5, AV.str a0_6]] => some (a0_0, a0_1, a0_2, a0_3, a0_4, a0_5, a0_6)
  | _ => none
theorem decAslot_Put_ok (l : List AV) (a : Aslot_Put) (h : decAslot_Put l = some a) : l = argsslot_Put a := by
  unfold decAslot_Put at h
  split at h
  · cases h; rfl
  · cases h
def rendslot_Put : Aslot_Put → Yslot_Put → AV := fun (a0_0, a0_1, a0_2, a0_3, a0_4, a0_5, a0_6) => unP fun r_0_y r_1_y => AV.tup [AV.str r_0_y, AV.int IntKind.i64 r_1_y]
theorem rendslot_Put_ok : ∀ (a : Aslot_Put) (y : Yslot_Put), (rendslot_Put a y).closed1 = true := by
  rintro ⟨a0_0, a0_1, a0_2, a0_3, a0_4, a0_5, a0_6⟩ y <;> first | rfl | exact Empty.elim y
theorem fnslot_Put_ok (a : Aslot_Put) : fnE Tryd.tab envslot_Put noHint 0 70 7 Tryd.f7.ntmps Tryd.f7.results.toList annslot_Put bslot_Put (argsslot_Put a) [] (fun v _ => some (v, [])) = fnslot_Put a (fun y => some (rendslot_Put a y, [])) := by kernel_rfl
noncomputable def vFslot_Put (a : Aslot_Put) (K : AV → Ans) : Ans := bindO (fnDslot_Put a) fun y => K (rendslot_Put a y)
noncomputable def Fslot_Put : List AV → (AV → Ans) → Ans := fun l K => bindO (decAslot_Put l) fun a => vFslot_Put a K
theorem Fslot_Put_ok : PureOk Tryd.prog 7 Fslot_Put := pure_mkD (hint := noHint) (d := 0) (n := 70) mixed tabOk envslot_PutOk Tryd.func7 (bodySome (by kernel_rfl)) (by decide +kernel) annslot_Put_ok decAslot_Put_ok fnslot_Put_ok fnslot_Put_nat rendslot_Put_ok
--@ strings_trimRightByte
noncomputable def envstrings_trimRightByte : Env := []
theorem envstrings_trimRightByteOk : EnvOk Tryd.prog envstrings_trimRightByte := EnvOk.nil
noncomputable def bstrings_trimRightByte : Code := Tryd.f39.body.getD .skip
noncomputable def Lstrings_trimRightByte_n1 : Code := codeAt [1, 0, 0, 0, 0, 0] bstrings_trimRightByte
noncomputable def annLstrings_trimRightByte_n1 : Ann := .none
theorem annLstrings_trimRightByte_n1_ok : AnnOk Tryd.prog 23 Lstrings_trimRightByte_n1 annLstrings_trimRightByte_n1 := (annOk_none _ _ _)
abbrev Istrings_trimRightByte_n1 := (List UInt8) × (Int)
abbrev Ystrings_trimRightByte_n1 := (Bool)
def Sstrings_trimRightByte_n1 : Istrings_trimRightByte_n1 → St := fun (t0, t1) => { env := [(0, AV.str t0), (1, AV.int IntKind.u8 t1)], stk := [[]], H := [], blk := 159744 }
def decstrings_trimRightByte_n1 (s : St) : Option Istrings_trimRightByte_n1 := match s with
  | { env := [(0, AV.str t0), (1, AV.int IntKind.u8 t1)], stk := [[]], H := [], blk := 159744 } => some (t0, t1)
  | _ => none
theorem decstrings_trimRightByte_n1_ok (s : St) (x : Istrings_trimRightByte_n1) (h : decstrings_trimRightByte_n1 s = some x) : s = Sstrings_trimRightByte_n1 x := by
  unfold decstrings_trimRightByte_n1 at h
  split at h
  · cases h; rfl
  · cases h
def outstrings_trimRightByte_n1 : Istrings_trimRightByte_n1 → (Ex → St → Ans) → Ystrings_trimRightByte_n1 → Ans := fun (t0, t1) K => fun t16_y => K (Ex.norm) { env := [(0, AV.str t0), (1, AV.int IntKind.u8 t1), (16, AV.bool t16_y)], stk := [[]], H := [], blk := 159744 }
noncomputable def nodestrings_trimRightByte_n1 {β : Type} : Istrings_trimRightByte_n1 → (Ystrings_trimRightByte_n1 → Option β) → Option β := fun (t0, t1) exit => (bif decide ((↑(List.length t0) : Int) > (0 : Int)) then (bindO (nth t0 (IntKind.wrap IntKind.i64 ((↑(List.length t0) : Int) - (1 : Int)))) fun x => (exit ((↑(UInt8.toNat x) : Int) == t1))) else (exit (false)))
noncomputable def nodeDstrings_trimRightByte_n1 (i : Istrings_trimRightByte_n1) : Option Ystrings_trimRightByte_n1 := nodestrings_trimRightByte_n1 i some
theorem nodestrings_trimRightByte_n1_nat (i : Istrings_trimRightByte_n1) (k : Ystrings_trimRightByte_n1 → Ans) : nodestrings_trimRightByte_n1 i k = bindO (nodeDstrings_trimRightByte_n1 i) k := by
  obtain ⟨t0, t1⟩ := i
  simp only [nodeDstrings_trimRightByte_n1, nodestrings_trimRightByte_n1, bindO_cond, bindO_assoc, bindO_none, bindO_pure, bindO_elim, bindO_unP]
theorem nodestrings_trimRightByte_n1_ok (i : Istrings_trimRightByte_n1) (K : Ex → St → Ans) : codeI Tryd.tab envstrings_trimRightByte noHint (codeD Tryd.tab envstrings_trimRightByte noHint 0 64) 70 23 annLstrings_trimRightByte_n1 Lstrings_trimRightByte_n1 (weakP 0 (exk [0, 1, 16] [4] []) K) (Sstrings_trimRightByte_n1 i) = nodestrings_trimRightByte_n1 i (outstrings_trimRightByte_n1 i K) := by kernel_rfl
theorem GNstrings_trimRightByte_n1_ok : CSum Tryd.prog 23 Lstrings_trimRightByte_n1 (sumN decstrings_trimRightByte_n1 nodeDstrings_trimRightByte_n1 outstrings_trimRightByte_n1) := csum_node mixed tabOk envstrings_trimRightByteOk 0 (exk [0, 1, 16] [4] []) annLstrings_trimRightByte_n1_ok decstrings_trimRightByte_n1_ok nodestrings_trimRightByte_n1_ok nodestrings_trimRightByte_n1_nat
noncomputable def Gstrings_trimRightByte_n1 : (Ex → St → Ans) → St → Ans := (sumN decstrings_trimRightByte_n1 nodeDstrings_trimRightByte_n1 outstrings_trimRightByte_n1)
theorem Gstrings_trimRightByte_n1_ok : CSum Tryd.prog 23 Lstrings_trimRightByte_n1 Gstrings_trimRightByte_n1 := GNstrings_trimRightByte_n1_ok
noncomputable def Lstrings_trimRightByte_n0 : Code := codeAt [1, 0, 0, 0] bstrings_trimRightByte
noncomputable def annLstrings_trimRightByte_n0 : Ann := .at 0 [0, 1] (.loop (.seq (.seq (.cut 0 [0, 1] Gstrings_trimRightByte_n1) .none) .none))
theorem annLstrings_trimRightByte_n0_ok : AnnOk Tryd.prog 23 (.loop Lstrings_trimRightByte_n0) annLstrings_trimRightByte_n0 := annOk_at ⟨⟨Gstrings_trimRightByte_n1_ok, (annOk_none _ _ _)⟩, (annOk_none _ _ _)⟩
abbrev Istrings_trimRightByte_n0 := (Int)
abbrev Ystrings_trimRightByte_n0 := (List UInt8)
abbrev Vstrings_trimRightByte_n0 := (List UInt8)
def Sstrings_trimRightByte_n0 : Istrings_trimRightByte_n0 → Vstrings_trimRightByte_n0 → St := fun t1 t0 => { env := [(0, AV.str t0), (1, AV.int IntKind.u8 t1)], stk := [[]], H := [], blk := 159744 }
def decstrings_trimRightByte_n0 (s : St) : Option (Istrings_trimRightByte_n0 × Vstrings_trimRightByte_n0) := match s with
  | { env := [(0, AV.str t0), (1, AV.int IntKind.u8 t1)], stk := [[]], H := [], blk := 159744 } => some (t1, t0)
  | _ => none
theorem decstrings_trimRightByte_n0_ok (s : St) (x : Istrings_trimRightByte_n0 × Vstrings_trimRightByte_n0) (h : decstrings_trimRightByte_n0 s = some x) : s = Sstrings_trimRightByte_n0 x.1 x.2 := by
  unfold decstrings_trimRightByte_n0 at h
  split at h
  · cases h; rfl
  · cases h
def outstrings_trimRightByte_n0 : Istrings_trimRightByte_n0 → (Ex → St → Ans) → Ystrings_trimRightByte_n0 → Ans := fun t1 K => fun t0_y => K (Ex.exit 0) { env := [(0, AV.str t0_y)], stk := [[]], H := [], blk := 159744 }
noncomputable def stepstrings_trimRightByte_n0 {β : Type} : Istrings_trimRightByte_n0 → Vstrings_trimRightByte_n0 → (Vstrings_trimRightByte_n0 → Option β) → (Ystrings_trimRightByte_n0 → Option β) → Option β := fun t1 t0 next exit => (bindO (nodeDstrings_trimRightByte_n1 (t0, t1)) fun t16 => (bif t16 then (bif inR (IntKind.wrap IntKind.i64 ((↑(List.length t0) : Int) - (1 : Int))) (List.length t0 + (1 : Nat)) then (next (List.take (Int.toNat (IntKind.wrap IntKind.i64 ((↑(List.length t0) : Int) - (1 : Int)))) t0)) else none) else (exit (t0))))
noncomputable def stepDstrings_trimRightByte_n0 (i : Istrings_trimRightByte_n0) (v : Vstrings_trimRightByte_n0) : Option (Vstrings_trimRightByte_n0 ⊕ Ystrings_trimRightByte_n0) := stepstrings_trimRightByte_n0 i v (fun v => some (.inl v)) (fun y => some (.inr y))
theorem stepstrings_trimRightByte_n0_nat (i : Istrings_trimRightByte_n0) (v : Vstrings_trimRightByte_n0) (next : Vstrings_trimRightByte_n0 → Ans) (exit : Ystrings_trimRightByte_n0 → Ans) : stepstrings_trimRightByte_n0 i v next exit = bindO (stepDstrings_trimRightByte_n0 i v) (Sum.elim next exit) := by
  obtain z := i
  obtain z := v
  simp only [stepDstrings_trimRightByte_n0, stepstrings_trimRightByte_n0, bindO_cond, bindO_assoc, bindO_none, bindO_pure, bindO_elim, bindO_unP, Sum.elim_inl, Sum.elim_inr]
theorem stepstrings_trimRightByte_n0_ok (n : Nat) (i : Istrings_trimRightByte_n0) (v : Vstrings_trimRightByte_n0) (K : Ex → St → Ans) : codeI Tryd.tab envstrings_trimRightByte noHint (codeD Tryd.tab envstrings_trimRightByte noHint 0 64) (n+1) 23 annLstrings_trimRightByte_n0 (.loop Lstrings_trimRightByte_n0) (weakP 0 (exk [0] [4] [(0, [0])]) K) (Sstrings_trimRightByte_n0 i v) = stepstrings_trimRightByte_n0 i v (fun v' => codeI Tryd.tab envstrings_trimRightByte noHint (codeD Tryd.tab envstrings_trimRightByte noHint 0 64) n 23 annLstrings_trimRightByte_n0 (.loop Lstrings_trimRightByte_n0) (weakP 0 (exk [0] [4] [(0, [0])]) K) (Sstrings_trimRightByte_n0 i v')) (fun y => outstrings_trimRightByte_n0 i K y) := by kernel_rfl
theorem GNstrings_trimRightByte_n0_ok : CSum Tryd.prog 23 (.loop Lstrings_trimRightByte_n0) (sumL decstrings_trimRightByte_n0 stepDstrings_trimRightByte_n0 outstrings_trimRightByte_n0) := csum_loop mixed tabOk envstrings_trimRightByteOk 0 (exk [0] [4] [(0, [0])]) annLstrings_trimRightByte_n0_ok decstrings_trimRightByte_n0_ok stepstrings_trimRightByte_n0_ok stepstrings_trimRightByte_n0_nat
noncomputable def Gstrings_trimRightByte_n0 : (Ex → St → Ans) → St → Ans := (sumL decstrings_trimRightByte_n0 stepDstrings_trimRightByte_n0 outstrings_trimRightByte_n0)
theorem Gstrings_trimRightByte_n0_ok : CSum Tryd.prog 23 (.loop Lstrings_trimRightByte_n0) Gstrings_trimRightByte_n0 := GNstrings_trimRightByte_n0_ok
noncomputable def annstrings_trimRightByte : Ann := (.seq .none (.seq (.block (.cut 0 [0, 1] Gstrings_trimRightByte_n0)) .none))
theorem annstrings_trimRightByte_ok : AnnOk Tryd.prog 23 bstrings_trimRightByte annstrings_trimRightByte := ⟨(annOk_none _ _ _), ⟨Gstrings_trimRightByte_n0_ok, (annOk_none _ _ _)⟩⟩
abbrev Astrings_trimRightByte := (List UInt8) × (Int)
abbrev Ystrings_trimRightByte := (List UInt8)
noncomputable def fnstrings_trimRightByte {β : Type} : Astrings_trimRightByte → (Ystrings_trimRightByte → Option β) → Option β := fun (a0, a1) exit => (bindO (loopD (stepDstrings_trimRightByte_n0 (a1)) FUEL (a0)) fun t0 => (exit (t0)))
noncomputable def fnDstrings_trimRightByte (a : Astrings_trimRightByte) : Option Ystrings_trimRightByte := fnstrings_trimRightByte a some
theorem fnstrings_trimRightByte_nat (a : Astrings_trimRightByte) (k : Ystrings_trimRightByte → Ans) : fnstrings_trimRightByte a k = bindO (fnDstrings_trimRightByte a) k := by
  obtain ⟨a0, a1⟩ := a
  simp only [fnDstrings_trimRightByte, fnstrings_trimRightByte, bindO_cond, bindO_assoc, bindO_none, bindO_pure, bindO_elim, bindO_unP]
def argsstrings_trimRightByte : Astrings_trimRightByte → List AV := fun (a0, a1) => [AV.str a0, AV.int IntKind.u8 a1]
def decAstrings_trimRightByte (l : List AV) : Option Astrings_trimRightByte := match l with
  | [AV.str a0, AV.int IntKind.u8 a1] => some (a0, a1)
  | _ => none
theorem decAstrings_trimRightByte_ok (l : List AV) (a : Astrings_trimRightByte) (h : decAstrings_trimRightByte l = some a) : l = argsstrings_trimRightByte a := by
  unfold decAstrings_trimRightByte at h
  split at h
  · cases h; rfl
  · cases h
def rendstrings_trimRightByte : Astrings_trimRightByte → Ystrings_trimRightByte → AV := fun (a0, a1) => fun r_y => AV.str r_y
theorem rendstrings_trimRightByte_ok : ∀ (a : Astrings_trimRightByte) (y : Ystrings_trimRightByte), (rendstrings_trimRightByte a y).closed1 = true := by
  rintro ⟨a0, a1⟩ y <;> first | rfl | exact Empty.elim y
theorem fnstrings_trimRightByte_ok (a : Astrings_trimRightByte) : fnE Tryd.tab envstrings_trimRightByte noHint 0 70 39 Tryd.f39.ntmps Tryd.f39.results.toList annstrings_trimRightByte bstrings_trimRightByte (argsstrings_trimRightByte a) [] (fun v _ => some (v, [])) = fnstrings_trimRightByte a (fun y => some (rendstrings_trimRightByte a y, [])) := by kernel_rfl
noncomputable def vFstrings_trimRightByte (a : Astrings_trimRightByte) (K : AV → Ans) : Ans := bindO (fnDstrings_trimRightByte a) fun y => K (rendstrings_trimRightByte a y)
noncomputable def Fstrings_trimRightByte : List AV → (AV → Ans) → Ans := fun l K => bindO (decAstrings_trimRightByte l) fun a => vFstrings_trimRightByte a K
theorem Fstrings_trimRightByte_ok : PureOk Tryd.prog 39 Fstrings_trimRightByte := pure_mkD (hint := noHint) (d := 0) (n := 70) mixed tabOk envstrings_trimRightByteOk Tryd.func39 (bodySome (by kernel_rfl)) (by decide +kernel) annstrings_trimRightByte_ok decAstrings_trimRightByte_ok fnstrings_trimRightByte_ok fnstrings_trimRightByte_nat rendstrings_trimRightByte_ok
--@ strings_trimLeftByte
noncomputable def envstrings_trimLeftByte : Env := []
theorem envstrings_trimLeftByteOk : EnvOk Tryd.prog envstrings_trimLeftByte := EnvOk.nil
noncomputable def bstrings_trimLeftByte : Code := Tryd.f38.body.getD .skip
noncomputable def Lstrings_trimLeftByte_n1 : Code := codeAt [1, 0, 0, 0, 0, 0] bstrings_trimLeftByte
noncomputable def annLstrings_trimLeftByte_n1 : Ann := .none
theorem annLstrings_trimLeftByte_n1_ok : AnnOk Tryd.prog 17 Lstrings_trimLeftByte_n1 annLstrings_trimLeftByte_n1 := (annOk_none _ _ _)
abbrev Istrings_trimLeftByte_n1 := (List UInt8) × (Int)
abbrev Ystrings_trimLeftByte_n1 := (Bool)
def Sstrings_trimLeftByte_n1 : Istrings_trimLeftByte_n1 → St := fun (t0, t1) => { env := [(0, AV.str t0), (1, AV.int IntKind.u8 t1)], stk := [[]], H := [], blk := 155648 }
def decstrings_trimLeftByte_n1 (s : St) : Option Istrings_trimLeftByte_n1 := match s with
  | { env := [(0, AV.str t0), (1, AV.int IntKind.u8 t1)], stk := [[]], H := [], blk := 155648 } => some (t0, t1)
  | _ => none
theorem decstrings_trimLeftByte_n1_ok (s : St) (x : Istrings_trimLeftByte_n1) (h : decstrings_trimLeftByte_n1 s = some x) : s = Sstrings_trimLeftByte_n1 x := by
  unfold decstrings_trimLeftByte_n1 at h
  split at h
  · cases h; rfl
  · cases h
def outstrings_trimLeftByte_n1 : Istrings_trimLeftByte_n1 → (Ex → St → Ans) → Ystrings_trimLeftByte_n1 → Ans := fun (t0, t1) K => fun t13_y => K (Ex.norm) { env := [(0, AV.str t0), (1, AV.int IntKind.u8 t1), (13, AV.bool t13_y)], stk := [[]], H := [], blk := 155648 }
noncomputable def nodestrings_trimLeftByte_n1 {β : Type} : Istrings_trimLeftByte_n1 → (Ystrings_trimLeftByte_n1 → Option β) → Option β := fun (t0, t1) exit => (bif decide ((↑(List.length t0) : Int) > (0 : Int)) then (bindO (nth t0 (0 : Int)) fun x => (exit ((↑(UInt8.toNat x) : Int) == t1))) else (exit (false)))
noncomputable def nodeDstrings_trimLeftByte_n1 (i : Istrings_trimLeftByte_n1) : Option Ystrings_trimLeftByte_n1 := nodestrings_trimLeftByte_n1 i some
theorem nodestrings_trimLeftByte_n1_nat (i : Istrings_trimLeftByte_n1) (k : Ystrings_trimLeftByte_n1 → Ans) : nodestrings_trimLeftByte_n1 i k = bindO (nodeDstrings_trimLeftByte_n1 i) k := by
  obtain ⟨t0, t1⟩ := i
  simp only [nodeDstrings_trimLeftByte_n1, nodestrings_trimLeftByte_n1, bindO_cond, bindO_assoc, bindO_none, bindO_pure, bindO_elim, bindO_unP]
theorem nodestrings_trimLeftByte_n1_ok (i : Istrings_trimLeftByte_n1) (K : Ex → St → Ans) : codeI Tryd.tab envstrings_trimLeftByte noHint (codeD Tryd.tab envstrings_trimLeftByte noHint 0 64) 70 17 annLstrings_trimLeftByte_n1 Lstrings_trimLeftByte_n1 (weakP 0 (exk [0, 1, 13] [4] []) K) (Sstrings_trimLeftByte_n1 i) = nodestrings_trimLeftByte_n1 i (outstrings_trimLeftByte_n1 i K) := by kernel_rfl
theorem GNstrings_trimLeftByte_n1_ok : CSum Tryd.prog 17 Lstrings_trimLeftByte_n1 (sumN decstrings_trimLeftByte_n1 nodeDstrings_trimLeftByte_n1 outstrings_trimLeftByte_n1) := csum_node mixed tabOk envstrings_trimLeftByteOk 0 (exk [0, 1, 13] [4] []) annLstrings_trimLeftByte_n1_ok decstrings_trimLeftByte_n1_ok nodestrings_trimLeftByte_n1_ok nodestrings_trimLeftByte_n1_nat
noncomputable def Gstrings_trimLeftByte_n1 : (Ex → St → Ans) → St → Ans := (sumN decstrings_trimLeftByte_n1 nodeDstrings_trimLeftByte_n1 outstrings_trimLeftByte_n1)
theorem Gstrings_trimLeftByte_n1_ok : CSum Tryd.prog 17 Lstrings_trimLeftByte_n1 Gstrings_trimLeftByte_n1 := GNstrings_trimLeftByte_n1_ok
noncomputable def Lstrings_trimLeftByte_n0 : Code := codeAt [1, 0, 0, 0] bstrings_trimLeftByte
noncomputable def annLstrings_trimLeftByte_n0 : Ann := .at 0 [0, 1] (.loop (.seq (.seq (.cut 0 [0, 1] Gstrings_trimLeftByte_n1) .none) .none))
theorem annLstrings_trimLeftByte_n0_ok : AnnOk Tryd.prog 17 (.loop Lstrings_trimLeftByte_n0) annLstrings_trimLeftByte_n0 := annOk_at ⟨⟨Gstrings_trimLeftByte_n1_ok, (annOk_none _ _ _)⟩, (annOk_none _ _ _)⟩
abbrev Istrings_trimLeftByte_n0 := (Int)
abbrev Ystrings_trimLeftByte_n0 := (List UInt8)
abbrev Vstrings_trimLeftByte_n0 := (List UInt8)
def Sstrings_trimLeftByte_n0 : Istrings_trimLeftByte_n0 → Vstrings_trimLeftByte_n0 → St := fun t1 t0 => { env := [(0, AV.str t0), (1, AV.int IntKind.u8 t1)], stk := [[]], H := [], blk := 155648 }
def decstrings_trimLeftByte_n0 (s : St) : Option (Istrings_trimLeftByte_n0 × Vstrings_trimLeftByte_n0) := match s with
  | { env := [(0, AV.str t0), (1, AV.int IntKind.u8 t1)], stk := [[]], H := [], blk := 155648 } => some (t1, t0)
  | _ => none
theorem decstrings_trimLeftByte_n0_ok (s : St) (x : Istrings_trimLeftByte_n0 × Vstrings_trimLeftByte_n0) (h : decstrings_trimLeftByte_n0 s = some x) : s = Sstrings_trimLeftByte_n0 x.1 x.2 := by
  unfold decstrings_trimLeftByte_n0 at h
  split at h
  · cases h; rfl
  · cases h
def outstrings_trimLeftByte_n0 : Istrings_trimLeftByte_n0 → (Ex → St → Ans) → Ystrings_trimLeftByte_n0 → Ans := fun t1 K => fun t0_y => K (Ex.exit 0) { env := [(0, AV.str t0_y)], stk := [[]], H := [], blk := 155648 }
noncomputable def stepstrings_trimLeftByte_n0 {β : Type} : Istrings_trimLeftByte_n0 → Vstrings_trimLeftByte_n0 → (Vstrings_trimLeftByte_n0 → Option β) → (Ystrings_trimLeftByte_n0 → Option β) → Option β := fun t1 t0 next exit => (bindO (nodeDstrings_trimLeftByte_n1 (t0, t1)) fun t13 => (bif t13 then (bif inR (1 : Int) (List.length t0 + (1 : Nat)) then (next (List.drop (1 : Nat) t0)) else none) else (exit (t0))))
noncomputable def stepDstrings_trimLeftByte_n0 (i : Istrings_trimLeftByte_n0) (v : Vstrings_trimLeftByte_n0) : Option (Vstrings_trimLeftByte_n0 ⊕ Ystrings_trimLeftByte_n0) := stepstrings_trimLeftByte_n0 i v (fun v => some (.inl v)) (fun y => some (.inr y))
theorem stepstrings_trimLeftByte_n0_nat (i : Istrings_trimLeftByte_n0) (v : Vstrings_trimLeftByte_n0) (next : Vstrings_trimLeftByte_n0 → Ans) (exit : Ystrings_trimLeftByte_n0 → Ans) : stepstrings_trimLeftByte_n0 i v next exit = bindO (stepDstrings_trimLeftByte_n0 i v) (Sum.elim next exit) := by
  obtain z := i
  obtain z := v
  simp only [stepDstrings_trimLeftByte_n0, stepstrings_trimLeftByte_n0, bindO_cond, bindO_assoc, bindO_none, bindO_pure, bindO_elim, bindO_unP, Sum.elim_inl, Sum.elim_inr]
theorem stepstrings_trimLeftByte_n0_ok (n : Nat) (i : Istrings_trimLeftByte_n0) (v : Vstrings_trimLeftByte_n0) (K : Ex → St → Ans) : codeI Tryd.tab envstrings_trimLeftByte noHint (codeD Tryd.tab envstrings_trimLeftByte noHint 0 64) (n+1) 17 annLstrings_trimLeftByte_n0 (.loop Lstrings_trimLeftByte_n0) (weakP 0 (exk [0] [4] [(0, [0])]) K) (Sstrings_trimLeftByte_n0 i v) = stepstrings_trimLeftByte_n0 i v (fun v' => codeI Tryd.tab envstrings_trimLeftByte noHint (codeD Tryd.tab envstrings_trimLeftByte noHint 0 64) n 17 annLstrings_trimLeftByte_n0 (.loop Lstrings_trimLeftByte_n0) (weakP 0 (exk [0] [4] [(0, [0])]) K) (Sstrings_trimLeftByte_n0 i v')) (fun y => outstrings_trimLeftByte_n0 i K y) := by kernel_rfl
theorem GNstrings_trimLeftByte_n0_ok : CSum Tryd.prog 17 (.loop Lstrings_trimLeftByte_n0) (sumL decstrings_trimLeftByte_n0 stepDstrings_trimLeftByte_n0 outstrings_trimLeftByte_n0) := csum_loop mixed tabOk envstrings_trimLeftByteOk 0 (exk [0] [4] [(0, [0])]) annLstrings_trimLeftByte_n0_ok decstrings_trimLeftByte_n0_ok stepstrings_trimLeftByte_n0_ok stepstrings_trimLeftByte_n0_nat
noncomputable def Gstrings_trimLeftByte_n0 : (Ex → St → Ans) → St → Ans := (sumL decstrings_trimLeftByte_n0 stepDstrings_trimLeftByte_n0 outstrings_trimLeftByte_n0)
theorem Gstrings_trimLeftByte_n0_ok : CSum Tryd.prog 17 (.loop Lstrings_trimLeftByte_n0) Gstrings_trimLeftByte_n0 := GNstrings_trimLeftByte_n0_ok
noncomputable def annstrings_trimLeftByte : Ann := (.seq .none (.seq (.block (.cut 0 [0, 1] Gstrings_trimLeftByte_n0)) .none))
theorem annstrings_trimLeftByte_ok : AnnOk Tryd.prog 17 bstrings_trimLeftByte annstrings_trimLeftByte := ⟨(annOk_none _ _ _), ⟨Gstrings_trimLeftByte_n0_ok, (annOk_none _ _ _)⟩⟩
abbrev Astrings_trimLeftByte := (List UInt8) × (Int)
abbrev Ystrings_trimLeftByte := (List UInt8)
noncomputable def fnstrings_trimLeftByte {β : Type} : Astrings_trimLeftByte → (Ystrings_trimLeftByte → Option β) → Option β := fun (a0, a1) exit => (bindO (loopD (stepDstrings_trimLeftByte_n0 (a1)) FUEL (a0)) fun t0 => (exit (t0)))
noncomputable def fnDstrings_trimLeftByte (a : Astrings_trimLeftByte) : Option Ystrings_trimLeftByte := fnstrings_trimLeftByte a some
theorem fnstrings_trimLeftByte_nat (a : Astrings_trimLeftByte) (k : Ystrings_trimLeftByte → Ans) : fnstrings_trimLeftByte a k = bindO (fnDstrings_trimLeftByte a) k := by
  obtain ⟨a0, a1⟩ := a
  simp only [fnDstrings_trimLeftByte, fnstrings_trimLeftByte, bindO_cond, bindO_assoc, bindO_none, bindO_pure, bindO_elim, bindO_unP]
def argsstrings_trimLeftByte : Astrings_trimLeftByte → List AV := fun (a0, a1) => [AV.str a0, AV.int IntKind.u8 a1]
def decAstrings_trimLeftByte (l : List AV) : Option Astrings_trimLeftByte := match l with
  | [AV.str a0, AV.int IntKind.u8 a1] => some (a0, a1)
  | _ => none
theorem decAstrings_trimLeftByte_ok (l : List AV) (a : Astrings_trimLeftByte) (h : decAstrings_trimLeftByte l = some a) : l = argsstrings_trimLeftByte a := by
  unfold decAstrings_trimLeftByte at h
  split at h
  · cases h; rfl
  · cases h
def rendstrings_trimLeftByte : Astrings_trimLeftByte → Ystrings_trimLeftByte → AV := fun (a0, a1) => fun r_y => AV.str r_y
theorem rendstrings_trimLeftByte_ok : ∀ (a : Astrings_trimLeftByte) (y : Ystrings_trimLeftByte), (rendstrings_trimLeftByte a y).closed1 = true := by
  rintro ⟨a0, a1⟩ y <;> first | rfl | exact Empty.elim y
theorem fnstrings_trimLeftByte_ok (a : Astrings_trimLeftByte) : fnE Tryd.tab envstrings_trimLeftByte noHint 0 70 38 Tryd.f38.ntmps Tryd.f38.results.toList annstrings_trimLeftByte bstrings_trimLeftByte (argsstrings_trimLeftByte a) [] (fun v _ => some (v, [])) = fnstrings_trimLeftByte a (fun y => some (rendstrings_trimLeftByte a y, [])) := by kernel_rfl
noncomputable def vFstrings_trimLeftByte (a : Astrings_trimLeftByte) (K : AV → Ans) : Ans := bindO (fnDstrings_trimLeftByte a) fun y => K (rendstrings_trimLeftByte a y)
noncomputable def Fstrings_trimLeftByte : List AV → (AV → Ans) → Ans := fun l K => bindO (decAstrings_trimLeftByte l) fun a => vFstrings_trimLeftByte a K
theorem Fstrings_trimLeftByte_ok : PureOk Tryd.prog 38 Fstrings_trimLeftByte := pure_mkD (hint := noHint) (d := 0) (n := 70) mixed tabOk envstrings_trimLeftByteOk Tryd.func38 (bodySome (by kernel_rfl)) (by decide +kernel) annstrings_trimLeftByte_ok decAstrings_trimLeftByte_ok fnstrings_trimLeftByte_ok fnstrings_trimLeftByte_nat rendstrings_trimLeftByte_ok
--@ strings_Trim
noncomputable def envstrings_Trim : Env := [(39, .pure Fstrings_trimRightByte), (38, .pure Fstrings_trimLeftByte)]
theorem envstrings_TrimOk : EnvOk Tryd.prog envstrings_Trim := EnvOk.cons Fstrings_trimRightByte_ok (EnvOk.cons Fstrings_trimLeftByte_ok (EnvOk.nil))
noncomputable def bstrings_Trim : Code := Tryd.f25.body.getD .skip
noncomputable def Lstrings_Trim_n1 : Code := codeAt [1, 1, 0, 0] bstrings_Trim
noncomputable def annLstrings_Trim_n1 : Ann := .none
theorem annLstrings_Trim_n1_ok : AnnOk Tryd.prog 43 Lstrings_Trim_n1 annLstrings_Trim_n1 := (annOk_none _ _ _)
abbrev Istrings_Trim_n1 := (List UInt8) × (List UInt8)
abbrev Ystrings_Trim_n1 := (Bool)
def Sstrings_Trim_n1 : Istrings_Trim_n1 → St := fun (t0, t1) => { env := [(0, AV.str t0), (1, AV.str t1)], stk := [[]], H := [], blk := 102400 }
def decstrings_Trim_n1 (s : St) : Option Istrings_Trim_n1 := match s with
  | { env := [(0, AV.str t0), (1, AV.str t1)], stk := [[]], H := [], blk := 102400 } => some (t0, t1)
  | _ => none
theorem decstrings_Trim_n1_ok (s : St) (x : Istrings_Trim_n1) (h : decstrings_Trim_n1 s = some x) : s = Sstrings_Trim_n1 x := by
  unfold decstrings_Trim_n1 at h
  split at h
  · cases h; rfl
  · cases h
def outstrings_Trim_n1 : Istrings_Trim_n1 → (Ex → St → Ans) → Ystrings_Trim_n1 → Ans := fun (t0, t1) K => fun t21_y => K (Ex.norm) { env := [(0, AV.str t0), (1, AV.str t1), (21, AV.bool t21_y)], stk := [[]], H := [], blk := 102400 }
noncomputable def nodestrings_Trim_n1 {β : Type} : Istrings_Trim_n1 → (Ystrings_Trim_n1 → Option β) → Option β := fun (t0, t1) exit => (bif (↑(List.length t1) : Int) == (1 : Int) then (bindO (nth t1 (0 : Int)) fun x => (exit (decide ((↑(UInt8.toNat x) : Int) < (128 : Int))))) else (exit (false)))
noncomputable def nodeDstrings_Trim_n1 (i : Istrings_Trim_n1) : Option Ystrings_Trim_n1 := nodestrings_Trim_n1 i some
theorem nodestrings_Trim_n1_nat (i : Istrings_Trim_n1) (k : Ystrings_Trim_n1 → Ans) : nodestrings_Trim_n1 i k = bindO (nodeDstrings_Trim_n1 i) k := by
  obtain ⟨t0, t1⟩ := i
  simp only [nodeDstrings_Trim_n1, nodestrings_Trim_n1, bindO_cond, bindO_assoc, bindO_none, bindO_pure, bindO_elim, bindO_unP]
theorem nodestrings_Trim_n1_ok (i : Istrings_Trim_n1) (K : Ex → St → Ans) : codeI Tryd.tab envstrings_Trim noHint (codeD Tryd.tab envstrings_Trim noHint 0 64) 70 43 annLstrings_Trim_n1 Lstrings_Trim_n1 (weakP 0 (exk [0, 1, 21] [4] []) K) (Sstrings_Trim_n1 i) = nodestrings_Trim_n1 i (outstrings_Trim_n1 i K) := by kernel_rfl
theorem GNstrings_Trim_n1_ok : CSum Tryd.prog 43 Lstrings_Trim_n1 (sumN decstrings_Trim_n1 nodeDstrings_Trim_n1 outstrings_Trim_n1) := csum_node mixed tabOk envstrings_TrimOk 0 (exk [0, 1, 21] [4] []) annLstrings_Trim_n1_ok decstrings_Trim_n1_ok nodestrings_Trim_n1_ok nodestrings_Trim_n1_nat
noncomputable def Gstrings_Trim_n1 : (Ex → St → Ans) → St → Ans := (sumN decstrings_Trim_n1 nodeDstrings_Trim_n1 outstrings_Trim_n1)
theorem Gstrings_Trim_n1_ok : CSum Tryd.prog 43 Lstrings_Trim_n1 Gstrings_Trim_n1 := GNstrings_Trim_n1_ok
noncomputable def Lstrings_Trim_n0 : Code := codeAt [1, 0, 0] bstrings_Trim
noncomputable def annLstrings_Trim_n0 : Ann := .none
theorem annLstrings_Trim_n0_ok : AnnOk Tryd.prog 43 Lstrings_Trim_n0 annLstrings_Trim_n0 := (annOk_none _ _ _)
abbrev Istrings_Trim_n0 := (List UInt8) × (List UInt8)
abbrev Ystrings_Trim_n0 := (Bool)
def Sstrings_Trim_n0 : Istrings_Trim_n0 → St := fun (t0, t1) => { env := [(0, AV.str t0), (1, AV.str t1)], stk := [[]], H := [], blk := 102400 }
def decstrings_Trim_n0 (s : St) : Option Istrings_Trim_n0 := match s with
  | { env := [(0, AV.str t0), (1, AV.str t1)], stk := [[]], H := [], blk := 102400 } => some (t0, t1)
  | _ => none
theorem decstrings_Trim_n0_ok (s : St) (x : Istrings_Trim_n0) (h : decstrings_Trim_n0 s = some x) : s = Sstrings_Trim_n0 x := by
  unfold decstrings_Trim_n0 at h
  split at h
  · cases h; rfl
  · cases h
def outstrings_Trim_n0 : Istrings_Trim_n0 → (Ex → St → Ans) → Ystrings_Trim_n0 → Ans := fun (t0, t1) K => fun t12_y => K (Ex.norm) { env := [(0, AV.str t0), (1, AV.str t1), (12, AV.bool t12_y)], stk := [[]], H := [], blk := 102400 }
noncomputable def nodestrings_Trim_n0 {β : Type} : Istrings_Trim_n0 → (Ystrings_Trim_n0 → Option β) → Option β := fun (t0, t1) exit => (bif t0 == [] then (exit (true)) else (exit (t1 == [])))
noncomputable def nodeDstrings_Trim_n0 (i : Istrings_Trim_n0) : Option Ystrings_Trim_n0 := nodestrings_Trim_n0 i some
theorem nodestrings_Trim_n0_nat (i : Istrings_Trim_n0) (k : Ystrings_Trim_n0 → Ans) : nodestrings_Trim_n0 i k = bindO (nodeDstrings_Trim_n0 i) k := by
  obtain ⟨t0, t1⟩ := i
  simp only [nodeDstrings_Trim_n0, nodestrings_Trim_n0, bindO_cond, bindO_assoc, bindO_none, bindO_pure, bindO_elim, bindO_unP]
theorem nodestrings_Trim_n0_ok (i : Istrings_Trim_n0) (K : Ex → St → Ans) : codeI Tryd.tab envstrings_Trim noHint (codeD Tryd.tab envstrings_Trim noHint 0 64) 70 43 annLstrings_Trim_n0 Lstrings_Trim_n0 (weakP 0 (exk [0, 1, 12] [4] []) K) (Sstrings_Trim_n0 i) = nodestrings_Trim_n0 i (outstrings_Trim_n0 i K) := by kernel_rfl
theorem GNstrings_Trim_n0_ok : CSum Tryd.prog 43 Lstrings_Trim_n0 (sumN decstrings_Trim_n0 nodeDstrings_Trim_n0 outstrings_Trim_n0) := csum_node mixed tabOk envstrings_TrimOk 0 (exk [0, 1, 12] [4] []) annLstrings_Trim_n0_ok decstrings_Trim_n0_ok nodestrings_Trim_n0_ok nodestrings_Trim_n0_nat
noncomputable def Gstrings_Trim_n0 : (Ex → St → Ans) → St → Ans := (sumN decstrings_Trim_n0 nodeDstrings_Trim_n0 outstrings_Trim_n0)
theorem Gstrings_Trim_n0_ok : CSum Tryd.prog 43 Lstrings_Trim_n0 Gstrings_Trim_n0 := GNstrings_Trim_n0_ok
noncomputable def annstrings_Trim : Ann := (.seq .none (.seq (.seq (.cut 0 [0, 1] Gstrings_Trim_n0) .none) (.seq (.seq (.cut 0 [0, 1] Gstrings_Trim_n1) .none) .none)))
theorem annstrings_Trim_ok : AnnOk Tryd.prog 43 bstrings_Trim annstrings_Trim := ⟨(annOk_none _ _ _), ⟨⟨Gstrings_Trim_n0_ok, (annOk_none _ _ _)⟩, ⟨⟨Gstrings_Trim_n1_ok, (annOk_none _ _ _)⟩, (annOk_none _ _ _)⟩⟩⟩
abbrev Astrings_Trim := (List UInt8) × (List UInt8)
abbrev Ystrings_Trim := (List UInt8)
noncomputable def fnstrings_Trim {β : Type} : Astrings_Trim → (Ystrings_Trim → Option β) → Option β := fun (a0, a1) exit => (bindO (nodeDstrings_Trim_n0 (a0, a1)) fun t12 => (bif t12 then (exit (a0)) else (bindO (nodeDstrings_Trim_n1 (a0, a1)) fun t21 => (bif t21 then (bindO (nth a1 (0 : Int)) fun x => (bindO (fnDstrings_trimRightByte (a0, (↑(UInt8.toNat x) : Int))) fun r => (bindO (nth a1 (0 : Int)) fun x_2 => (bindO (fnDstrings_trimLeftByte (r, (↑(UInt8.toNat x_2) : Int))) fun r_2 => (exit (r_2)))))) else none))))
noncomputable def fnDstrings_Trim (a : Astrings_Trim) : Option Ystrings_Trim := fnstrings_Trim a some
theorem fnstrings_Trim_nat (a : Astrings_Trim) (k : Ystrings_Trim → Ans) : fnstrings_Trim a k = bindO (fnDstrings_Trim a) k := by
  obtain ⟨a0, a1⟩ := a
  simp only [fnDstrings_Trim, fnstrings_Trim, bindO_cond, bindO_assoc, bindO_none, bindO_pure, bindO_elim, bindO_unP]
def argsstrings_Trim : Astrings_Trim → List AV := fun (a0, a1) => [AV.str a0, AV.str a1]
def decAstrings_Trim (l : List AV) : Option Astrings_Trim := match l with
  | [AV.str a0, AV.str a1] => some (a0, a1)
  | _ => none
theorem decAstrings_Trim_ok (l : List AV) (a : Astrings_Trim) (h : decAstrings_Trim l = some a) : l = argsstrings_Trim a := by
  unfold decAstrings_Trim at h
  split at h
  · cases h; rfl
  · cases h
def rendstrings_Trim : Astrings_Trim → Ystrings_Trim → AV := fun (a0, a1) => fun r_y => AV.str r_y
theorem rendstrings_Trim_ok : ∀ (a : Astrings_Trim) (y : Ystrings_Trim), (rendstrings_Trim a y).closed1 = true := by
  rintro ⟨a0, a1⟩ y <;> first | rfl | exact Empty.elim y
theorem fnstrings_Trim_ok (a : Astrings_Trim) : fnE Tryd.tab envstrings_Trim noHint 0 70 25 Tryd.f25.ntmps Tryd.f25.results.toList annstrings_Trim bstrings_Trim (argsstrings_Trim a) [] (fun v _ => some (v, [])) = fnstrings_Trim a (fun y => some (rendstrings_Trim a y, [])) := by kernel_rfl
noncomputable def vFstrings_Trim (a : Astrings_Trim) (K : AV → Ans) : Ans := bindO (fnDstrings_Trim a) fun y => K (rendstrings_Trim a y)
noncomputable def Fstrings_Trim : List AV → (AV → Ans) → Ans := fun l K => bindO (decAstrings_Trim l) fun a => vFstrings_Trim a K
theorem Fstrings_Trim_ok : PureOk Tryd.prog 25 Fstrings_Trim := pure_mkD (hint := noHint) (d := 0) (n := 70) mixed tabOk envstrings_TrimOk Tryd.func25 (bodySome (by kernel_rfl)) (by decide +kernel) annstrings_Trim_ok decAstrings_Trim_ok fnstrings_Trim_ok fnstrings_Trim_nat rendstrings_Trim_ok
--@ field_New
noncomputable def envfield_New : Env := []
theorem envfield_NewOk : EnvOk Tryd.prog envfield_New := EnvOk.nil
noncomputable def bfield_New : Code := Tryd.f26.body.getD .skip
noncomputable def annfield_New : Ann := .none
theorem annfield_New_ok : AnnOk Tryd.prog 6 bfield_New annfield_New := (annOk_none _ _ _)
abbrev Afield_New := (List UInt8)
abbrev Yfield_New := Unit
noncomputable def fnfield_New {β : Type} : Afield_New → (Yfield_New → Option β) → Option β := fun a0 exit => (exit ())
noncomputable def fnDfield_New (a : Afield_New) : Option Yfield_New := fnfield_New a some
theorem fnfield_New_nat (a : Afield_New) (k : Yfield_New → Ans) : fnfield_New a k = bindO (fnDfield_New a) k := by
  obtain z := a
  simp only [fnDfield_New, fnfield_New, bindO_cond, bindO_assoc, bindO_none, bindO_pure, bindO_elim, bindO_unP]
def argsfield_New : Afield_New → List AV × List AE.Obj := fun a0 => ([AV.str a0], [])
def decAfield_New (l : List AV) (H : List AE.Obj) : Option Afield_New := match l, H with
  | [AV.str a0], [] => some (a0)
  | _, _ => none
theorem decAfield_New_ok (l : List AV) (H : List AE.Obj) (a : Afield_New) (h : decAfield_New l H = some a) : (l, H) = argsfield_New a := by
  unfold decAfield_New at h
  split at h
  · cases h; rfl
  · cases h
def outfield_New : Afield_New → (AV → List AE.Obj → Ans) → Yfield_New → Ans := fun a0 K => fun _ => K (AV.ptr 0 0) [AE.Obj.cells [AV.str a0, AV.int IntKind.i64 (0)]]
theorem fnfield_New_ok (a : Afield_New) (K : AV → List AE.Obj → Ans) : fnE Tryd.tab envfield_New noHint 0 70 26 Tryd.f26.ntmps Tryd.f26.results.toList annfield_New bfield_New (argsfield_New a).1 (argsfield_New a).2 K = fnfield_New a (outfield_New a K) := by kernel_rfl
noncomputable def vFfield_New (a : Afield_New) (K : AV → List AE.Obj → Ans) : Ans := bindO (fnDfield_New a) fun y => outfield_New a K y
noncomputable def Ffield_New : List AV → List AE.Obj → (AV → List AE.Obj → Ans) → Ans := fun l H K => bindO (decAfield_New l H) fun a => vFfield_New a K
theorem Ffield_New_ok : FuncOk Tryd.prog 26 Ffield_New := func_mkD (hint := noHint) (d := 0) (n := 70) mixed tabOk envfield_NewOk Tryd.func26 (bodySome (by kernel_rfl)) (by decide +kernel) annfield_New_ok decAfield_New_ok fnfield_New_ok fnfield_New_nat
end Go.Proofs.R5

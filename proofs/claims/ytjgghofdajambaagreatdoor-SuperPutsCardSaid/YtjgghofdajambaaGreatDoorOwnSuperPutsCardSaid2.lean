/- What the functions that SuperPutsCardSaid reaches compute: part 2. -/
import Derived.Test.YtjgghofdajambaaGreatDoorAe4
import Derived.Test.YtjgghofdajambaaGreatDoorProg
import Derived.Test.YtjgghofdajambaaGreatDoorChecked
import Derived.Eval
import Derived.Shelf.Strings.Builder1
import Derived.Shelf.Strings.Builder2
import Derived.Shelf.Strings.BuilderF
import Derived.Shelf.Strings.Prefix
import Derived.Shelf.Bits.Mul64
import Derived.Shelf.Strings.Repeat
import Derived.Shelf.Sort.Plain
import Derived.Shelf.Slices.In.SortNone
set_option linter.unusedVariables false
set_option linter.unusedSimpArgs false
namespace Go.Proofs
instance Tryz.bt : Go.AE.BT := ⟨5, 181⟩
def Tryz.tab : Go.AE.Tab := [
  (1, ⟨.sc, 1, 8, [.nilf], none⟩),
  (2, ⟨.sc, 1, 8, [.int .i64 0], some (.int .i64)⟩),
  (3, ⟨.sc, 1, 8, [.int .i64 0], some (.int .i64)⟩),
  (4, ⟨.sc, 1, 1, [.bool false], some .bool⟩),
  (5, ⟨.sc, 1, 1, [.int .u8 0], some (.int .u8)⟩),
  (7, ⟨.struct [(2, 0), (3, 1), (4, 2), (6, 3)], 4, 24, [.int .i64 0, .int .i64 0, .bool false, .int .u8 0], some (.st (.pair (.int .i64) (.pair (.int .i64) (.pair .bool (.int .u8)))))⟩),
  (9, ⟨.sc, 1, 16, [.str []], some .str⟩),
  (12, ⟨.sc, 1, 8, [.int .u64 0], some (.int .u64)⟩),
  (20, ⟨.sc, 1, 16, [.nili], none⟩),
  (21, ⟨.sc, 1, 4, [.int .i32 0], some (.int .i32)⟩),
  (22, ⟨.slice 35, 1, 24, [.nils], some (.list (.st (.pair (.int .i64) (.pair (.int .i64) .str))))⟩),
  (23, ⟨.sc, 1, 8, [.nilf], none⟩),
  (24, ⟨.sc, 1, 8, [.nilf], none⟩),
  (25, ⟨.ptr 171, 1, 8, [.nilp], none⟩),
  (26, ⟨.ptr 153, 1, 8, [.nilp], none⟩),
  (28, ⟨.sc, 1, 8, [.nilf], none⟩),
  (29, ⟨.ptr 149, 1, 8, [.nilp], none⟩),
  (30, ⟨.sc, 1, 8, [.nilf], none⟩),
  (31, ⟨.sc, 1, 8, [.int .i64 0], some (.int .i64)⟩),
  (33, ⟨.sc, 1, 8, [.nilf], none⟩),
  (34, ⟨.struct [(3, 0), (3, 1), (9, 2)], 3, 32, [.int .i64 0, .int .i64 0, .str []], some (.st (.pair (.int .i64) (.pair (.int .i64) .str)))⟩),
  (35, ⟨.struct [(3, 0), (3, 1), (9, 2)], 3, 32, [.int .i64 0, .int .i64 0, .str []], some (.st (.pair (.int .i64) (.pair (.int .i64) .str)))⟩),
  (36, ⟨.sc, 1, 8, [.nilf], none⟩),
  (37, ⟨.sc, 1, 8, [.nilf], none⟩),
  (38, ⟨.sc, 1, 8, [.int .u64 0], some (.int .u64)⟩),
  (39, ⟨.sc, 1, 8, [.nilf], none⟩),
  (40, ⟨.sc, 1, 8, [.nilf], none⟩),
  (41, ⟨.slice 5, 1, 24, [.nils], some (.list (.int .u8))⟩),
  (42, ⟨.sc, 1, 8, [.nilf], none⟩),
  (43, ⟨.sc, 1, 8, [.nilf], none⟩),
  (45, ⟨.sc, 1, 8, [.nilf], none⟩),
  (47, ⟨.sc, 1, 8, [.nilf], none⟩),
  (48, ⟨.sc, 1, 8, [.nilf], none⟩),
  (49, ⟨.struct [(3, 0), (3, 1), (3, 2)], 3, 24, [.int .i64 0, .int .i64 0, .int .i64 0], some (.st (.pair (.int .i64) (.pair (.int .i64) (.int .i64))))⟩),
  (50, ⟨.struct [(3, 0), (3, 1), (3, 2)], 3, 24, [.int .i64 0, .int .i64 0, .int .i64 0], some (.st (.pair (.int .i64) (.pair (.int .i64) (.int .i64))))⟩),
  (52, ⟨.sc, 1, 8, [.nilf], none⟩),
  (53, ⟨.sc, 1, 8, [.nilf], none⟩),
  (54, ⟨.sc, 1, 8, [.nilf], none⟩),
  (55, ⟨.sc, 1, 8, [.nilf], none⟩),
  (56, ⟨.sc, 1, 8, [.nilf], none⟩),
  (57, ⟨.sc, 1, 8, [.nilf], none⟩),
  (59, ⟨.sc, 1, 8, [.nilf], none⟩),
  (60, ⟨.sc, 1, 8, [.nilf], none⟩),
  (61, ⟨.sc, 1, 8, [.nilf], none⟩),
  (62, ⟨.struct [(3, 0), (3, 1), (3, 2), (3, 3), (50, 4)], 7, 56, [.int .i64 0, .int .i64 0, .int .i64 0, .int .i64 0, .int .i64 0, .int .i64 0, .int .i64 0], some (.st (.pair (.int .i64) (.pair (.int .i64) (.pair (.int .i64) (.pair (.int .i64) (.pair (.int .i64) (.pair (.int .i64) (.int .i64))))))))⟩),
  (63, ⟨.struct [(3, 0), (3, 1), (3, 2), (3, 3), (50, 4)], 7, 56, [.int .i64 0, .int .i64 0, .int .i64 0, .int .i64 0, .int .i64 0, .int .i64 0, .int .i64 0], some (.st (.pair (.int .i64) (.pair (.int .i64) (.pair (.int .i64) (.pair (.int .i64) (.pair (.int .i64) (.pair (.int .i64) (.int .i64))))))))⟩),
  (64, ⟨.sc, 1, 8, [.nilf], none⟩),
  (65, ⟨.sc, 1, 8, [.nilf], none⟩),
  (66, ⟨.sc, 1, 8, [.nilf], none⟩),
  (68, ⟨.sc, 1, 8, [.nilf], none⟩),
  (69, ⟨.sc, 1, 8, [.nilf], none⟩),
  (70, ⟨.slice 3, 1, 24, [.nils], some (.list (.int .i64))⟩),
  (71, ⟨.ptr 192, 1, 8, [.nilp], none⟩),
  (72, ⟨.sc, 1, 8, [.nilf], none⟩),
  (73, ⟨.ptr 85, 1, 8, [.nilp], none⟩),
  (74, ⟨.sc, 1, 8, [.nilf], none⟩),
  (75, ⟨.sc, 1, 8, [.nilf], none⟩),
  (76, ⟨.sc, 1, 8, [.nilf], none⟩),
  (77, ⟨.sc, 1, 8, [.nilf], none⟩),
  (78, ⟨.sc, 1, 8, [.nilf], none⟩),
  (80, ⟨.sc, 1, 8, [.nilf], none⟩),
  (82, ⟨.sc, 1, 8, [.nilf], none⟩),
  (83, ⟨.slice 4, 1, 24, [.nils], some (.list .bool)⟩),
  (84, ⟨.struct [(83, 0)], 1, 24, [.nils], some (.st (.list .bool))⟩),
  (85, ⟨.struct [(83, 0)], 1, 24, [.nils], some (.st (.list .bool))⟩),
  (86, ⟨.sc, 1, 8, [.nilf], none⟩),
  (87, ⟨.sc, 1, 8, [.nilf], none⟩),
  (88, ⟨.struct [(3, 0), (3, 1)], 2, 16, [.int .i64 0, .int .i64 0], some (.st (.pair (.int .i64) (.int .i64)))⟩),
  (89, ⟨.struct [(3, 0), (3, 1)], 2, 16, [.int .i64 0, .int .i64 0], some (.st (.pair (.int .i64) (.int .i64)))⟩),
  (90, ⟨.struct [(89, 0), (3, 2)], 3, 24, [.int .i64 0, .int .i64 0, .int .i64 0], some (.st (.pair (.pair (.int .i64) (.int .i64)) (.int .i64)))⟩),
  (91, ⟨.struct [(89, 0), (3, 2)], 3, 24, [.int .i64 0, .int .i64 0, .int .i64 0], some (.st (.pair (.pair (.int .i64) (.int .i64)) (.int .i64)))⟩),
  (92, ⟨.ptr 197, 1, 8, [.nilp], none⟩),
  (94, ⟨.sc, 1, 8, [.nilf], none⟩),
  (95, ⟨.slice 91, 1, 24, [.nils], some (.list (.st (.pair (.pair (.int .i64) (.int .i64)) (.int .i64))))⟩),
  (97, ⟨.sc, 1, 8, [.nilf], none⟩),
  (98, ⟨.sc, 1, 8, [.nilf], none⟩),
  (100, ⟨.sc, 1, 8, [.nilf], none⟩),
  (101, ⟨.sc, 1, 8, [.nilf], none⟩),
  (102, ⟨.sc, 1, 8, [.nilf], none⟩),
  (103, ⟨.sc, 1, 8, [.nilf], none⟩),
  (104, ⟨.sc, 1, 8, [.nilf], none⟩),
  (105, ⟨.sc, 1, 8, [.nilf], none⟩),
  (106, ⟨.sc, 1, 8, [.nilf], none⟩),
  (107, ⟨.sc, 1, 8, [.nilf], none⟩),
  (108, ⟨.sc, 1, 8, [.nilf], none⟩),
  (109, ⟨.slice 115, 1, 24, [.nils], some (.list (.st (.pair (.int .i64) .bool)))⟩),
  (110, ⟨.sc, 1, 8, [.nilf], none⟩),
  (111, ⟨.sc, 1, 8, [.nilf], none⟩),
  (112, ⟨.sc, 1, 8, [.nilf], none⟩),
  (113, ⟨.sc, 1, 8, [.nilf], none⟩),
  (114, ⟨.struct [(3, 0), (4, 1)], 2, 16, [.int .i64 0, .bool false], some (.st (.pair (.int .i64) .bool))⟩),
  (115, ⟨.struct [(3, 0), (4, 1)], 2, 16, [.int .i64 0, .bool false], some (.st (.pair (.int .i64) .bool))⟩),
  (116, ⟨.sc, 1, 8, [.nilf], none⟩),
  (117, ⟨.slice 119, 1, 24, [.nils], some (.list (.st (.pair (.int .i64) (.pair (.pair (.int .i64) (.int .i64)) (.int .i64)))))⟩),
  (118, ⟨.struct [(3, 0), (91, 1)], 4, 32, [.int .i64 0, .int .i64 0, .int .i64 0, .int .i64 0], some (.st (.pair (.int .i64) (.pair (.pair (.int .i64) (.int .i64)) (.int .i64))))⟩),
  (119, ⟨.struct [(3, 0), (91, 1)], 4, 32, [.int .i64 0, .int .i64 0, .int .i64 0, .int .i64 0], some (.st (.pair (.int .i64) (.pair (.pair (.int .i64) (.int .i64)) (.int .i64))))⟩),
  (120, ⟨.sc, 1, 8, [.nilf], none⟩),
  (121, ⟨.sc, 1, 8, [.nilf], none⟩),
  (122, ⟨.sc, 1, 8, [.nilf], none⟩),
  (123, ⟨.struct [(89, 0), (9, 2)], 3, 32, [.int .i64 0, .int .i64 0, .str []], some (.st (.pair (.pair (.int .i64) (.int .i64)) .str))⟩),
  (124, ⟨.struct [(89, 0), (9, 2)], 3, 32, [.int .i64 0, .int .i64 0, .str []], some (.st (.pair (.pair (.int .i64) (.int .i64)) .str))⟩),
  (125, ⟨.struct [(3, 0), (124, 1), (124, 4)], 7, 72, [.int .i64 0, .int .i64 0, .int .i64 0, .str [], .int .i64 0, .int .i64 0, .str []], some (.st (.pair (.int .i64) (.pair (.pair (.pair (.int .i64) (.int .i64)) .str) (.pair (.pair (.int .i64) (.int .i64)) .str))))⟩),
  (126, ⟨.struct [(3, 0), (124, 1), (124, 4)], 7, 72, [.int .i64 0, .int .i64 0, .int .i64 0, .str [], .int .i64 0, .int .i64 0, .str []], some (.st (.pair (.int .i64) (.pair (.pair (.pair (.int .i64) (.int .i64)) .str) (.pair (.pair (.int .i64) (.int .i64)) .str))))⟩),
  (127, ⟨.ptr 203, 1, 8, [.nilp], none⟩),
  (129, ⟨.sc, 1, 8, [.nilf], none⟩),
  (131, ⟨.sc, 1, 8, [.nilf], none⟩),
  (132, ⟨.sc, 1, 8, [.nilf], none⟩),
  (133, ⟨.sc, 1, 8, [.nilf], none⟩),
  (135, ⟨.sc, 1, 8, [.nilf], none⟩),
  (136, ⟨.slice 126, 1, 24, [.nils], some (.list (.st (.pair (.int .i64) (.pair (.pair (.pair (.int .i64) (.int .i64)) .str) (.pair (.pair (.int .i64) (.int .i64)) .str)))))⟩),
  (138, ⟨.sc, 1, 8, [.nilf], none⟩),
  (139, ⟨.sc, 1, 8, [.nilf], none⟩),
  (140, ⟨.slice 144, 1, 24, [.nils], some (.list (.st (.pair (.int .i64) (.pair (.int .i64) (.pair (.int .i64) (.pair (.pair (.pair (.int .i64) (.int .i64)) .str) (.pair (.pair (.int .i64) (.int .i64)) .str)))))))⟩),
  (141, ⟨.sc, 1, 8, [.nilf], none⟩),
  (142, ⟨.sc, 1, 8, [.nilf], none⟩),
  (143, ⟨.struct [(3, 0), (3, 1), (126, 2)], 9, 88, [.int .i64 0, .int .i64 0, .int .i64 0, .int .i64 0, .int .i64 0, .str [], .int .i64 0, .int .i64 0, .str []], some (.st (.pair (.int .i64) (.pair (.int .i64) (.pair (.int .i64) (.pair (.pair (.pair (.int .i64) (.int .i64)) .str) (.pair (.pair (.int .i64) (.int .i64)) .str))))))⟩),
  (144, ⟨.struct [(3, 0), (3, 1), (126, 2)], 9, 88, [.int .i64 0, .int .i64 0, .int .i64 0, .int .i64 0, .int .i64 0, .str [], .int .i64 0, .int .i64 0, .str []], some (.st (.pair (.int .i64) (.pair (.int .i64) (.pair (.int .i64) (.pair (.pair (.pair (.int .i64) (.int .i64)) .str) (.pair (.pair (.int .i64) (.int .i64)) .str))))))⟩),
  (145, ⟨.sc, 1, 8, [.nilf], none⟩),
  (146, ⟨.slice 9, 1, 24, [.nils], some (.list .str)⟩),
  (147, ⟨.slice 164, 1, 24, [.nils], some (.list (.st (.pair (.int .i64) .str)))⟩),
  (148, ⟨.struct [(146, 0), (147, 1), (4, 2), (3, 3), (3, 4), (3, 5), (4, 6)], 7, 88, [.nils, .nils, .bool false, .int .i64 0, .int .i64 0, .int .i64 0, .bool false], some (.st (.pair (.list .str) (.pair (.list (.st (.pair (.int .i64) .str))) (.pair .bool (.pair (.int .i64) (.pair (.int .i64) (.pair (.int .i64) .bool)))))))⟩),
  (149, ⟨.struct [(146, 0), (147, 1), (4, 2), (3, 3), (3, 4), (3, 5), (4, 6)], 7, 88, [.nils, .nils, .bool false, .int .i64 0, .int .i64 0, .int .i64 0, .bool false], some (.st (.pair (.list .str) (.pair (.list (.st (.pair (.int .i64) .str))) (.pair .bool (.pair (.int .i64) (.pair (.int .i64) (.pair (.int .i64) .bool)))))))⟩),
  (150, ⟨.ptr 223, 1, 8, [.nilp], none⟩),
  (151, ⟨.ptr 218, 1, 8, [.nilp], none⟩),
  (152, ⟨.struct [(25, 0), (150, 1), (150, 2), (3, 3), (3, 4), (3, 5), (3, 6), (3, 7), (3, 8), (4, 9), (4, 10), (151, 11)], 12, 88, [.nilp, .nilp, .nilp, .int .i64 0, .int .i64 0, .int .i64 0, .int .i64 0, .int .i64 0, .int .i64 0, .bool false, .bool false, .nilp], none⟩),
  (153, ⟨.struct [(25, 0), (150, 1), (150, 2), (3, 3), (3, 4), (3, 5), (3, 6), (3, 7), (3, 8), (4, 9), (4, 10), (151, 11)], 12, 88, [.nilp, .nilp, .nilp, .int .i64 0, .int .i64 0, .int .i64 0, .int .i64 0, .int .i64 0, .int .i64 0, .bool false, .bool false, .nilp], none⟩),
  (154, ⟨.sc, 1, 8, [.nilf], none⟩),
  (155, ⟨.sc, 1, 16, [.nili], none⟩),
  (156, ⟨.sc, 1, 16, [.nili], none⟩),
  (157, ⟨.sc, 1, 8, [.nilf], none⟩),
  (158, ⟨.struct [(3, 0), (3, 1), (3, 2)], 3, 24, [.int .i64 0, .int .i64 0, .int .i64 0], some (.st (.pair (.int .i64) (.pair (.int .i64) (.int .i64))))⟩),
  (159, ⟨.struct [(3, 0), (3, 1), (3, 2)], 3, 24, [.int .i64 0, .int .i64 0, .int .i64 0], some (.st (.pair (.int .i64) (.pair (.int .i64) (.int .i64))))⟩),
  (160, ⟨.sc, 1, 8, [.nilf], none⟩),
  (161, ⟨.sc, 1, 8, [.nilf], none⟩),
  (162, ⟨.sc, 1, 8, [.nilf], none⟩),
  (163, ⟨.struct [(3, 0), (9, 1)], 2, 24, [.int .i64 0, .str []], some (.st (.pair (.int .i64) .str))⟩),
  (164, ⟨.struct [(3, 0), (9, 1)], 2, 24, [.int .i64 0, .str []], some (.st (.pair (.int .i64) .str))⟩),
  (165, ⟨.sc, 1, 8, [.nilf], none⟩),
  (166, ⟨.sc, 1, 8, [.nilf], none⟩),
  (167, ⟨.sc, 1, 8, [.nilf], none⟩),
  (168, ⟨.sc, 1, 8, [.nilf], none⟩),
  (169, ⟨.map 3 9, 1, 8, [.nilm], none⟩),
  (170, ⟨.struct [(146, 0), (169, 1), (147, 2), (3, 3), (70, 4), (3, 5), (4, 6)], 7, 104, [.nils, .nilm, .nils, .int .i64 0, .nils, .int .i64 0, .bool false], none⟩),
  (171, ⟨.struct [(146, 0), (169, 1), (147, 2), (3, 3), (70, 4), (3, 5), (4, 6)], 7, 104, [.nils, .nilm, .nils, .int .i64 0, .nils, .int .i64 0, .bool false], none⟩),
  (172, ⟨.sc, 1, 8, [.nilf], none⟩),
  (173, ⟨.slice 172, 1, 24, [.nils], none⟩),
  (175, ⟨.sc, 1, 8, [.nilf], none⟩),
  (176, ⟨.struct [(3, 0), (3, 1), (3, 2), (3, 3), (3, 4), (3, 5), (3, 6)], 7, 56, [.int .i64 0, .int .i64 0, .int .i64 0, .int .i64 0, .int .i64 0, .int .i64 0, .int .i64 0], some (.st (.pair (.int .i64) (.pair (.int .i64) (.pair (.int .i64) (.pair (.int .i64) (.pair (.int .i64) (.pair (.int .i64) (.int .i64))))))))⟩),
  (177, ⟨.struct [(3, 0), (3, 1), (3, 2), (3, 3), (3, 4), (3, 5), (3, 6)], 7, 56, [.int .i64 0, .int .i64 0, .int .i64 0, .int .i64 0, .int .i64 0, .int .i64 0, .int .i64 0], some (.st (.pair (.int .i64) (.pair (.int .i64) (.pair (.int .i64) (.pair (.int .i64) (.pair (.int .i64) (.pair (.int .i64) (.int .i64))))))))⟩),
  (178, ⟨.sc, 1, 8, [.nilf], none⟩),
  (179, ⟨.ptr 181, 1, 8, [.nilp], none⟩),
  (180, ⟨.struct [(179, 0), (41, 1)], 2, 32, [.nilp, .nils], none⟩),
  (181, ⟨.struct [(179, 0), (41, 1)], 2, 32, [.nilp, .nils], none⟩),
  (183, ⟨.sc, 1, 8, [.nilf], none⟩),
  (184, ⟨.sc, 1, 8, [.nilf], none⟩),
  (185, ⟨.sc, 1, 8, [.nilf], none⟩),
  (186, ⟨.sc, 1, 8, [.nilf], none⟩),
  (187, ⟨.sc, 1, 8, [.nilf], none⟩),
  (188, ⟨.ptr 253, 1, 8, [.nilp], none⟩),
  (189, ⟨.sc, 1, 8, [.nilf], none⟩),
  (190, ⟨.sc, 1, 8, [.nilf], none⟩),
  (191, ⟨.struct [(3, 0), (41, 1)], 2, 32, [.int .i64 0, .nils], some (.st (.pair (.int .i64) (.list (.int .u8))))⟩),
  (192, ⟨.struct [(3, 0), (41, 1)], 2, 32, [.int .i64 0, .nils], some (.st (.pair (.int .i64) (.list (.int .u8))))⟩),
  (193, ⟨.array 2 91, 6, 48, [.int .i64 0, .int .i64 0, .int .i64 0, .int .i64 0, .int .i64 0, .int .i64 0], some (.st (.pair (.pair (.pair (.int .i64) (.int .i64)) (.int .i64)) (.pair (.pair (.int .i64) (.int .i64)) (.int .i64))))⟩),
  (195, ⟨.sc, 1, 8, [.nilf], none⟩),
  (196, ⟨.struct [(26, 0), (50, 1)], 4, 32, [.nilp, .int .i64 0, .int .i64 0, .int .i64 0], none⟩),
  (197, ⟨.struct [(26, 0), (50, 1)], 4, 32, [.nilp, .int .i64 0, .int .i64 0, .int .i64 0], none⟩),
  (198, ⟨.sc, 1, 8, [.nilf], none⟩),
  (199, ⟨.sc, 1, 8, [.nilf], none⟩),
  (200, ⟨.sc, 1, 8, [.nilf], none⟩),
  (201, ⟨.sc, 1, 8, [.nilf], none⟩),
  (202, ⟨.struct [(26, 0), (50, 1)], 4, 32, [.nilp, .int .i64 0, .int .i64 0, .int .i64 0], none⟩),
  (203, ⟨.struct [(26, 0), (50, 1)], 4, 32, [.nilp, .int .i64 0, .int .i64 0, .int .i64 0], none⟩),
  (204, ⟨.sc, 1, 8, [.nilf], none⟩),
  (205, ⟨.slice 210, 1, 24, [.nils], some (.list (.st (.pair (.int .i64) (.pair (.int .i64) (.pair (.pair (.pair (.int .i64) (.int .i64)) .str) (.pair (.pair (.int .i64) (.int .i64)) .str))))))⟩),
  (207, ⟨.sc, 1, 8, [.nilf], none⟩),
  (208, ⟨.sc, 1, 8, [.nilf], none⟩),
  (209, ⟨.struct [(3, 0), (126, 1)], 8, 80, [.int .i64 0, .int .i64 0, .int .i64 0, .int .i64 0, .str [], .int .i64 0, .int .i64 0, .str []], some (.st (.pair (.int .i64) (.pair (.int .i64) (.pair (.pair (.pair (.int .i64) (.int .i64)) .str) (.pair (.pair (.int .i64) (.int .i64)) .str)))))⟩),
  (210, ⟨.struct [(3, 0), (126, 1)], 8, 80, [.int .i64 0, .int .i64 0, .int .i64 0, .int .i64 0, .str [], .int .i64 0, .int .i64 0, .str []], some (.st (.pair (.int .i64) (.pair (.int .i64) (.pair (.pair (.pair (.int .i64) (.int .i64)) .str) (.pair (.pair (.int .i64) (.int .i64)) .str)))))⟩),
  (211, ⟨.sc, 1, 8, [.nilf], none⟩),
  (212, ⟨.sc, 1, 8, [.nilf], none⟩),
  (213, ⟨.sc, 1, 8, [.nilf], none⟩),
  (214, ⟨.sc, 1, 8, [.nilf], none⟩),
  (215, ⟨.sc, 1, 8, [.nilf], none⟩),
  (216, ⟨.map 3 9, 1, 8, [.nilm], none⟩),
  (217, ⟨.struct [(216, 0), (216, 1)], 2, 16, [.nilm, .nilm], none⟩),
  (218, ⟨.struct [(216, 0), (216, 1)], 2, 16, [.nilm, .nilm], none⟩),
  (219, ⟨.sc, 1, 8, [.nilf], none⟩),
  (220, ⟨.ptr 31, 1, 8, [.nilp], none⟩),
  (221, ⟨.sc, 1, 8, [.nilf], none⟩),
  (222, ⟨.struct [(25, 0), (3, 1), (3, 2)], 3, 24, [.nilp, .int .i64 0, .int .i64 0], none⟩),
  (223, ⟨.struct [(25, 0), (3, 1), (3, 2)], 3, 24, [.nilp, .int .i64 0, .int .i64 0], none⟩),
  (224, ⟨.sc, 1, 8, [.nilf], none⟩),
  (225, ⟨.sc, 1, 8, [.nilf], none⟩),
  (226, ⟨.sc, 1, 8, [.nilf], none⟩),
  (227, ⟨.sc, 1, 8, [.nilf], none⟩),
  (229, ⟨.sc, 1, 8, [.nilf], none⟩),
  (230, ⟨.sc, 1, 8, [.nilf], none⟩),
  (232, ⟨.sc, 1, 8, [.nilf], none⟩),
  (233, ⟨.sc, 1, 8, [.nilf], none⟩),
  (234, ⟨.sc, 1, 8, [.int .u64 0], some (.int .u64)⟩),
  (236, ⟨.sc, 1, 8, [.nilf], none⟩),
  (237, ⟨.sc, 1, 8, [.nilf], none⟩),
  (238, ⟨.sc, 1, 8, [.nilf], none⟩),
  (239, ⟨.sc, 1, 8, [.nilf], none⟩),
  (241, ⟨.sc, 1, 8, [.nilf], none⟩),
  (242, ⟨.slice 245, 1, 24, [.nils], some (.list (.st (.pair (.int .i64) (.pair (.int .i64) (.list (.st (.pair (.int .i64) .str)))))))⟩),
  (243, ⟨.sc, 1, 8, [.nilf], none⟩),
  (244, ⟨.struct [(3, 0), (3, 1), (147, 2)], 3, 40, [.int .i64 0, .int .i64 0, .nils], some (.st (.pair (.int .i64) (.pair (.int .i64) (.list (.st (.pair (.int .i64) .str))))))⟩),
  (245, ⟨.struct [(3, 0), (3, 1), (147, 2)], 3, 40, [.int .i64 0, .int .i64 0, .nils], some (.st (.pair (.int .i64) (.pair (.int .i64) (.list (.st (.pair (.int .i64) .str))))))⟩),
  (246, ⟨.sc, 1, 8, [.nilf], none⟩),
  (248, ⟨.sc, 1, 8, [.nilf], none⟩),
  (249, ⟨.ptr 5, 1, 8, [.nilp], none⟩),
  (250, ⟨.sc, 1, 8, [.nilf], none⟩),
  (251, ⟨.array 4 5, 4, 4, [.int .u8 0, .int .u8 0, .int .u8 0, .int .u8 0], some (.st (.pair (.int .u8) (.pair (.int .u8) (.pair (.int .u8) (.int .u8)))))⟩),
  (252, ⟨.struct [(9, 0), (31, 1)], 2, 24, [.str [], .int .i64 0], some (.st (.pair .str (.int .i64)))⟩),
  (253, ⟨.struct [(9, 0), (31, 1)], 2, 24, [.str [], .int .i64 0], some (.st (.pair .str (.int .i64)))⟩),
  (254, ⟨.sc, 1, 8, [.nilf], none⟩),
  (256, ⟨.sc, 1, 8, [.nilf], none⟩),
  (257, ⟨.sc, 1, 8, [.nilf], none⟩),
  (259, ⟨.sc, 1, 8, [.nilf], none⟩),
  (260, ⟨.sc, 1, 8, [.nilf], none⟩),
  (261, ⟨.sc, 1, 8, [.nilf], none⟩),
  (262, ⟨.sc, 1, 8, [.nilf], none⟩),
  (264, ⟨.sc, 1, 8, [.int .u64 0], some (.int .u64)⟩),
  (267, ⟨.sc, 1, 8, [.nilf], none⟩),
  (269, ⟨.sc, 1, 16, [.nili], none⟩),
  (270, ⟨.sc, 1, 8, [.nilf], none⟩),
  (272, ⟨.sc, 1, 8, [.nilf], none⟩),
  (273, ⟨.sc, 1, 8, [.nilf], none⟩),
  (274, ⟨.sc, 1, 8, [.nilf], none⟩),
  (275, ⟨.ptr 277, 1, 8, [.nilp], none⟩),
  (278, ⟨.sc, 1, 8, [.nilf], none⟩),
  (279, ⟨.sc, 1, 8, [.nilf], none⟩),
  (280, ⟨.sc, 1, 8, [.nilf], none⟩),
  (281, ⟨.sc, 1, 4, [.int .u32 0], some (.int .u32)⟩),
  (283, ⟨.sc, 1, 8, [.nilf], none⟩),
  (285, ⟨.sc, 1, 8, [.nilf], none⟩),
  (286, ⟨.sc, 1, 8, [.nilf], none⟩),
  (287, ⟨.ptr 289, 1, 8, [.nilp], none⟩),
  (288, ⟨.struct [(150, 0), (3, 1), (3, 2), (3, 3), (246, 4), (4, 5)], 6, 48, [.nilp, .int .i64 0, .int .i64 0, .int .i64 0, .nilf, .bool false], none⟩),
  (289, ⟨.struct [(150, 0), (3, 1), (3, 2), (3, 3), (246, 4), (4, 5)], 6, 48, [.nilp, .int .i64 0, .int .i64 0, .int .i64 0, .nilf, .bool false], none⟩),
  (290, ⟨.sc, 1, 8, [.nilf], none⟩),
  (291, ⟨.sc, 1, 8, [.nilf], none⟩),
  (292, ⟨.ptr 322, 1, 8, [.nilp], none⟩),
  (293, ⟨.sc, 1, 8, [.nilf], none⟩),
  (294, ⟨.sc, 1, 8, [.nilf], none⟩),
  (295, ⟨.sc, 1, 8, [.nilf], none⟩),
  (296, ⟨.array 256 4, 256, 256, [.bool false, .bool false, .bool false, .bool false, .bool false, .bool false, .bool false, .bool false, .bool false, .bool false, .bool false, .bool false, .bool false, .bool false, .bool false, .bool false, .bool false, .bool false, .bool false, .bool false, .bool false, .bool false, .bool false, .bool false, .bool false, .bool false, .bool false, .bool false, .bool false, .bool false, .bool false, .bool false, .bool false, .bool false, .bool false, .bool false, .bool false, .bool false, .bool false, .bool false, .bool false, .bool false, .bool false, .bool false, .bool false, .bool false, .bool false, .bool false, .bool false, .bool false, .bool false, .bool false, .bool false, .bool false, .bool false, .bool false, .bool false, .bool false, .bool false, .bool false, .bool false, .bool false, .bool false, .bool false, .bool false, .bool false, .bool false, .bool false, .bool false, .bool false, .bool false, .bool false, .bool false, .bool false, .bool false, .bool false, .bool false, .bool false, .bool false, .bool false, .bool false, .bool false, .bool false, .bool false, .bool false, .bool false, .bool false, .bool false, .bool false, .bool false, .bool false, .bool false, .bool false, .bool false, .bool false, .bool false, .bool false, .bool false, .bool false, .bool false, .bool false, .bool false, .bool false, .bool false, .bool false, .bool false, .bool false, .bool false, .bool false, .bool false, .bool false, .bool false, .bool false, .bool false, .bool false, .bool false, .bool false, .bool false, .bool false, .bool false, .bool false, .bool false, .bool false, .bool false, .bool false, .bool false, .bool false, .bool false, .bool false, .bool false, .bool false, .bool false, .bool false, .bool false, .bool false, .bool false, .bool false, .bool false, .bool false, .bool false, .bool false, .bool false, .bool false, .bool false, .bool false, .bool false, .bool false, .bool false, .bool false, .bool false, .bool false, .bool false, .bool false, .bool false, .bool false, .bool false, .bool false, .bool false, .bool false, .bool false, .bool false, .bool false, .bool false, .bool false, .bool false, .bool false, .bool false, .bool false, .bool false, .bool false, .bool false, .bool false, .bool false, .bool false, .bool false, .bool false, .bool false, .bool false, .bool false, .bool false, .bool false, .bool false, .bool false, .bool false, .bool false, .bool false, .bool false, .bool false, .bool false, .bool false, .bool false, .bool false, .bool false, .bool false, .bool false, .bool false, .bool false, .bool false, .bool false, .bool false, .bool false, .bool false, .bool false, .bool false, .bool false, .bool false, .bool false, .bool false, .bool false, .bool false, .bool false, .bool false, .bool false, .bool false, .bool false, .bool false, .bool false, .bool false, .bool false, .bool false, .bool false, .bool false, .bool false, .bool false, .bool false, .bool false, .bool false, .bool false, .bool false, .bool false, .bool false, .bool false, .bool false, .bool false, .bool false, .bool false, .bool false, .bool false, .bool false, .bool false, .bool false, .bool false, .bool false, .bool false, .bool false, .bool false, .bool false, .bool false, .bool false, .bool false, .bool false, .bool false, .bool false, .bool false, .bool false, .bool false], none⟩),
  (297, ⟨.array 256 4, 256, 256, [.bool false, .bool false, .bool false, .bool false, .bool false, .bool false, .bool false, .bool false, .bool false, .bool false, .bool false, .bool false, .bool false, .bool false, .bool false, .bool false, .bool false, .bool false, .bool false, .bool false, .bool false, .bool false, .bool false, .bool false, .bool false, .bool false, .bool false, .bool false, .bool false, .bool false, .bool false, .bool false, .bool false, .bool false, .bool false, .bool false, .bool false, .bool false, .bool false, .bool false, .bool false, .bool false, .bool false, .bool false, .bool false, .bool false, .bool false, .bool false, .bool false, .bool false, .bool false, .bool false, .bool false, .bool false, .bool false, .bool false, .bool false, .bool false, .bool false, .bool false, .bool false, .bool false, .bool false, .bool false, .bool false, .bool false, .bool false, .bool false, .bool false, .bool false, .bool false, .bool false, .bool false, .bool false, .bool false, .bool false, .bool false, .bool false, .bool false, .bool false, .bool false, .bool false, .bool false, .bool false, .bool false, .bool false, .bool false, .bool false, .bool false, .bool false, .bool false, .bool false, .bool false, .bool false, .bool false, .bool false, .bool false, .bool false, .bool false, .bool false, .bool false, .bool false, .bool false, .bool false, .bool false, .bool false, .bool false, .bool false, .bool false, .bool false, .bool false, .bool false, .bool false, .bool false, .bool false, .bool false, .bool false, .bool false, .bool false, .bool false, .bool false, .bool false, .bool false, .bool false, .bool false, .bool false, .bool false, .bool false, .bool false, .bool false, .bool false, .bool false, .bool false, .bool false, .bool false, .bool false, .bool false, .bool false, .bool false, .bool false, .bool false, .bool false, .bool false, .bool false, .bool false, .bool false, .bool false, .bool false, .bool false, .bool false, .bool false, .bool false, .bool false, .bool false, .bool false, .bool false, .bool false, .bool false, .bool false, .bool false, .bool false, .bool false, .bool false, .bool false, .bool false, .bool false, .bool false, .bool false, .bool false, .bool false, .bool false, .bool false, .bool false, .bool false, .bool false, .bool false, .bool false, .bool false, .bool false, .bool false, .bool false, .bool false, .bool false, .bool false, .bool false, .bool false, .bool false, .bool false, .bool false, .bool false, .bool false, .bool false, .bool false, .bool false, .bool false, .bool false, .bool false, .bool false, .bool false, .bool false, .bool false, .bool false, .bool false, .bool false, .bool false, .bool false, .bool false, .bool false, .bool false, .bool false, .bool false, .bool false, .bool false, .bool false, .bool false, .bool false, .bool false, .bool false, .bool false, .bool false, .bool false, .bool false, .bool false, .bool false, .bool false, .bool false, .bool false, .bool false, .bool false, .bool false, .bool false, .bool false, .bool false, .bool false, .bool false, .bool false, .bool false, .bool false, .bool false, .bool false, .bool false, .bool false, .bool false, .bool false, .bool false, .bool false, .bool false, .bool false, .bool false, .bool false, .bool false, .bool false, .bool false, .bool false, .bool false, .bool false], none⟩),
  (299, ⟨.sc, 1, 8, [.nilf], none⟩),
  (300, ⟨.sc, 1, 8, [.nilf], none⟩),
  (301, ⟨.ptr 297, 1, 8, [.nilp], none⟩),
  (302, ⟨.sc, 1, 8, [.nilf], none⟩),
  (305, ⟨.ptr 374, 1, 8, [.nilp], none⟩),
  (306, ⟨.sc, 1, 8, [.nilf], none⟩),
  (307, ⟨.sc, 1, 8, [.nilf], none⟩),
  (308, ⟨.sc, 1, 8, [.nilf], none⟩),
  (309, ⟨.sc, 1, 16, [.nili], none⟩),
  (311, ⟨.sc, 1, 8, [.nilf], none⟩),
  (312, ⟨.sc, 1, 16, [.nili], none⟩),
  (313, ⟨.sc, 1, 16, [.nili], none⟩),
  (314, ⟨.slice 156, 1, 24, [.nils], none⟩),
  (315, ⟨.sc, 1, 8, [.nilf], none⟩),
  (316, ⟨.sc, 1, 8, [.nilf], none⟩),
  (317, ⟨.sc, 1, 8, [.nilf], none⟩),
  (318, ⟨.sc, 1, 8, [.nilf], none⟩),
  (319, ⟨.sc, 1, 8, [.nilf], none⟩),
  (320, ⟨.sc, 1, 8, [.nilf], none⟩),
  (321, ⟨.struct [(281, 0)], 1, 4, [.int .u32 0], some (.st (.int .u32))⟩),
  (322, ⟨.struct [(281, 0)], 1, 4, [.int .u32 0], some (.st (.int .u32))⟩),
  (323, ⟨.sc, 1, 8, [.nilf], none⟩),
  (324, ⟨.sc, 1, 8, [.nilf], none⟩),
  (326, ⟨.sc, 1, 8, [.nilf], none⟩),
  (327, ⟨.sc, 1, 8, [.nilf], none⟩),
  (328, ⟨.sc, 1, 8, [.nilf], none⟩),
  (329, ⟨.sc, 1, 8, [.nilf], none⟩),
  (330, ⟨.sc, 1, 8, [.int .i64 0], some (.int .i64)⟩),
  (332, ⟨.sc, 1, 8, [.nilf], none⟩),
  (333, ⟨.sc, 1, 8, [.nilf], none⟩),
  (334, ⟨.sc, 1, 8, [.nilf], none⟩),
  (336, ⟨.sc, 1, 8, [.nilf], none⟩),
  (337, ⟨.sc, 1, 8, [.nilf], none⟩),
  (338, ⟨.sc, 1, 8, [.nilf], none⟩),
  (339, ⟨.sc, 1, 8, [.nilf], none⟩),
  (341, ⟨.sc, 1, 8, [.nilf], none⟩),
  (342, ⟨.sc, 1, 8, [.nilf], none⟩),
  (343, ⟨.sc, 1, 8, [.int .u64 0], some (.int .u64)⟩),
  (344, ⟨.sc, 1, 8, [.nilf], none⟩),
  (345, ⟨.sc, 1, 8, [.nilf], none⟩),
  (346, ⟨.sc, 1, 8, [.nilf], none⟩),
  (347, ⟨.ptr 3, 1, 8, [.nilp], none⟩),
  (348, ⟨.sc, 1, 8, [.nilf], none⟩),
  (349, ⟨.array 256 5, 256, 256, [.int .u8 0, .int .u8 0, .int .u8 0, .int .u8 0, .int .u8 0, .int .u8 0, .int .u8 0, .int .u8 0, .int .u8 0, .int .u8 0, .int .u8 0, .int .u8 0, .int .u8 0, .int .u8 0, .int .u8 0, .int .u8 0, .int .u8 0, .int .u8 0, .int .u8 0, .int .u8 0, .int .u8 0, .int .u8 0, .int .u8 0, .int .u8 0, .int .u8 0, .int .u8 0, .int .u8 0, .int .u8 0, .int .u8 0, .int .u8 0, .int .u8 0, .int .u8 0, .int .u8 0, .int .u8 0, .int .u8 0, .int .u8 0, .int .u8 0, .int .u8 0, .int .u8 0, .int .u8 0, .int .u8 0, .int .u8 0, .int .u8 0, .int .u8 0, .int .u8 0, .int .u8 0, .int .u8 0, .int .u8 0, .int .u8 0, .int .u8 0, .int .u8 0, .int .u8 0, .int .u8 0, .int .u8 0, .int .u8 0, .int .u8 0, .int .u8 0, .int .u8 0, .int .u8 0, .int .u8 0, .int .u8 0, .int .u8 0, .int .u8 0, .int .u8 0, .int .u8 0, .int .u8 0, .int .u8 0, .int .u8 0, .int .u8 0, .int .u8 0, .int .u8 0, .int .u8 0, .int .u8 0, .int .u8 0, .int .u8 0, .int .u8 0, .int .u8 0, .int .u8 0, .int .u8 0, .int .u8 0, .int .u8 0, .int .u8 0, .int .u8 0, .int .u8 0, .int .u8 0, .int .u8 0, .int .u8 0, .int .u8 0, .int .u8 0, .int .u8 0, .int .u8 0, .int .u8 0, .int .u8 0, .int .u8 0, .int .u8 0, .int .u8 0, .int .u8 0, .int .u8 0, .int .u8 0, .int .u8 0, .int .u8 0, .int .u8 0, .int .u8 0, .int .u8 0, .int .u8 0, .int .u8 0, .int .u8 0, .int .u8 0, .int .u8 0, .int .u8 0, .int .u8 0, .int .u8 0, .int .u8 0, .int .u8 0, .int .u8 0, .int .u8 0, .int .u8 0, .int .u8 0, .int .u8 0, .int .u8 0, .int .u8 0, .int .u8 0, .int .u8 0, .int .u8 0, .int .u8 0, .int .u8 0, .int .u8 0, .int .u8 0, .int .u8 0, .int .u8 0, .int .u8 0, .int .u8 0, .int .u8 0, .int .u8 0, .int .u8 0, .int .u8 0, .int .u8 0, .int .u8 0, .int .u8 0, .int .u8 0, .int .u8 0, .int .u8 0, .int .u8 0, .int .u8 0, .int .u8 0, .int .u8 0, .int .u8 0, .int .u8 0, .int .u8 0, .int .u8 0, .int .u8 0, .int .u8 0, .int .u8 0, .int .u8 0, .int .u8 0, .int .u8 0, .int .u8 0, .int .u8 0, .int .u8 0, .int .u8 0, .int .u8 0, .int .u8 0, .int .u8 0, .int .u8 0, .int .u8 0, .int .u8 0, .int .u8 0, .int .u8 0, .int .u8 0, .int .u8 0, .int .u8 0, .int .u8 0, .int .u8 0, .int .u8 0, .int .u8 0, .int .u8 0, .int .u8 0, .int .u8 0, .int .u8 0, .int .u8 0, .int .u8 0, .int .u8 0, .int .u8 0, .int .u8 0, .int .u8 0, .int .u8 0, .int .u8 0, .int .u8 0, .int .u8 0, .int .u8 0, .int .u8 0, .int .u8 0, .int .u8 0, .int .u8 0, .int .u8 0, .int .u8 0, .int .u8 0, .int .u8 0, .int .u8 0, .int .u8 0, .int .u8 0, .int .u8 0, .int .u8 0, .int .u8 0, .int .u8 0, .int .u8 0, .int .u8 0, .int .u8 0, .int .u8 0, .int .u8 0, .int .u8 0, .int .u8 0, .int .u8 0, .int .u8 0, .int .u8 0, .int .u8 0, .int .u8 0, .int .u8 0, .int .u8 0, .int .u8 0, .int .u8 0, .int .u8 0, .int .u8 0, .int .u8 0, .int .u8 0, .int .u8 0, .int .u8 0, .int .u8 0, .int .u8 0, .int .u8 0, .int .u8 0, .int .u8 0, .int .u8 0, .int .u8 0, .int .u8 0, .int .u8 0, .int .u8 0, .int .u8 0, .int .u8 0, .int .u8 0, .int .u8 0, .int .u8 0, .int .u8 0, .int .u8 0, .int .u8 0, .int .u8 0, .int .u8 0, .int .u8 0, .int .u8 0, .int .u8 0, .int .u8 0, .int .u8 0, .int .u8 0, .int .u8 0, .int .u8 0, .int .u8 0], none⟩),
  (350, ⟨.struct [(5, 0), (5, 1)], 2, 2, [.int .u8 0, .int .u8 0], some (.st (.pair (.int .u8) (.int .u8)))⟩),
  (351, ⟨.struct [(5, 0), (5, 1)], 2, 2, [.int .u8 0, .int .u8 0], some (.st (.pair (.int .u8) (.int .u8)))⟩),
  (352, ⟨.array 16 351, 32, 32, [.int .u8 0, .int .u8 0, .int .u8 0, .int .u8 0, .int .u8 0, .int .u8 0, .int .u8 0, .int .u8 0, .int .u8 0, .int .u8 0, .int .u8 0, .int .u8 0, .int .u8 0, .int .u8 0, .int .u8 0, .int .u8 0, .int .u8 0, .int .u8 0, .int .u8 0, .int .u8 0, .int .u8 0, .int .u8 0, .int .u8 0, .int .u8 0, .int .u8 0, .int .u8 0, .int .u8 0, .int .u8 0, .int .u8 0, .int .u8 0, .int .u8 0, .int .u8 0], some (.st (.pair (.pair (.int .u8) (.int .u8)) (.pair (.pair (.int .u8) (.int .u8)) (.pair (.pair (.int .u8) (.int .u8)) (.pair (.pair (.int .u8) (.int .u8)) (.pair (.pair (.int .u8) (.int .u8)) (.pair (.pair (.int .u8) (.int .u8)) (.pair (.pair (.int .u8) (.int .u8)) (.pair (.pair (.int .u8) (.int .u8)) (.pair (.pair (.int .u8) (.int .u8)) (.pair (.pair (.int .u8) (.int .u8)) (.pair (.pair (.int .u8) (.int .u8)) (.pair (.pair (.int .u8) (.int .u8)) (.pair (.pair (.int .u8) (.int .u8)) (.pair (.pair (.int .u8) (.int .u8)) (.pair (.pair (.int .u8) (.int .u8)) (.pair (.int .u8) (.int .u8))))))))))))))))))⟩),
  (353, ⟨.sc, 1, 8, [.nilf], none⟩),
  (354, ⟨.sc, 1, 8, [.nilf], none⟩),
  (355, ⟨.sc, 1, 8, [.nilf], none⟩),
  (356, ⟨.ptr 343, 1, 8, [.nilp], none⟩),
  (358, ⟨.sc, 1, 8, [.nilf], none⟩),
  (366, ⟨.sc, 1, 8, [.nilf], none⟩),
  (371, ⟨.sc, 1, 8, [.nilf], none⟩),
  (372, ⟨.sc, 1, 8, [.nilf], none⟩),
  (375, ⟨.ptr 379, 1, 8, [.nilp], none⟩),
  (376, ⟨.sc, 1, 8, [.nilf], none⟩),
  (377, ⟨.sc, 1, 2, [.int .u16 0], some (.int .u16)⟩),
  (380, ⟨.slice 383, 1, 24, [.nils], some (.list (.st (.pair (.int .i32) (.pair (.int .i32) (.pair (.int .i32) (.int .i32))))))⟩),
  (384, ⟨.ptr 156, 1, 8, [.nilp], none⟩)]
end Go.Proofs
namespace Go.Proofs.R7
open Go Go.AE
theorem tabOk : TabOk Tryz.prog Tryz.tab := tabOk_of_check (by kernel_rfl)
theorem mixed : Tryz.prog.follows .mixedOrders = true := Checked.mixed Tryz.checked
end Go.Proofs.R7
namespace Go.Proofs
open Go.Shelf Go.Sort Go.RowKit
def Tryz.lays189_ren : Go.Shelf.Ren := ⟨fun | 189 => 206 | 125 => 236 | 257 => 235 | 128 => 257 | 129 => 258 | 294 => 248 | 295 => 249 | 296 => 250 | 297 => 251 | 298 => 252 | 299 => 253 | 216 => 254 | 300 => 255 | 301 => 256 | 328 => 265 | 329 => 266 | 330 => 267 | 331 => 268 | 332 => 269 | 215 => 270 | 343 => 275 | n => n, fun | 28 => 70 | 3 => 3 | 46 => 234 | 0 => 0 | 51 => 281 | 53 => 38 | 4 => 4 | 183 => 331 | 182 => 330 | 131 => 335 | 5 => 5 | 9 => 9 | 218 => 343 | 222 => 347 | 228 => 356 | 229 => 357 | n => n, fun | n => n⟩
theorem Tryz.lays189 : Go.Proofs.Lays.n189 Tryz.prog Tryz.lays189_ren := {
  mixed := by kernel_rfl
  f125 := Tryz.func236.trans (congrArg some (by kernel_rfl))
  f128 := Tryz.func257.trans (congrArg some (by kernel_rfl))
  f129 := Tryz.func258.trans (congrArg some (by kernel_rfl))
  f189 := Tryz.func206.trans (congrArg some (by kernel_rfl))
  f215 := Tryz.func270.trans (congrArg some (by kernel_rfl))
  f216 := Tryz.func254.trans (congrArg some (by kernel_rfl))
  f257 := Tryz.func235.trans (congrArg some (by kernel_rfl))
  f294 := Tryz.func248.trans (congrArg some (by kernel_rfl))
  f295 := Tryz.func249.trans (congrArg some (by kernel_rfl))
  f296 := Tryz.func250.trans (congrArg some (by kernel_rfl))
  f297 := Tryz.func251.trans (congrArg some (by kernel_rfl))
  f298 := Tryz.func252.trans (congrArg some (by kernel_rfl))
  f299 := Tryz.func253.trans (congrArg some (by kernel_rfl))
  f300 := Tryz.func255.trans (congrArg some (by kernel_rfl))
  f301 := Tryz.func256.trans (congrArg some (by kernel_rfl))
  f328 := Tryz.func265.trans (congrArg some (by kernel_rfl))
  f329 := Tryz.func266.trans (congrArg some (by kernel_rfl))
  f330 := Tryz.func267.trans (congrArg some (by kernel_rfl))
  f331 := Tryz.func268.trans (congrArg some (by kernel_rfl))
  f332 := Tryz.func269.trans (congrArg some (by kernel_rfl))
  f343 := Tryz.func275.trans (congrArg some (by kernel_rfl))
  t0 := Tryz.underlying0
  a0 := Tryz.isAgg0
  z0 := Tryz.sizeOf0
  v0 := Tryz.zeroValue0
  t3 := Tryz.underlying3
  a3 := Tryz.isAgg3
  z3 := Tryz.sizeOf3
  v3 := Tryz.zeroValue3
  t4 := Tryz.underlying4
  a4 := Tryz.isAgg4
  z4 := Tryz.sizeOf4
  v4 := Tryz.zeroValue4
  t5 := Tryz.underlying5
  a5 := Tryz.isAgg5
  z5 := Tryz.sizeOf5
  v5 := Tryz.zeroValue5
  t9 := Tryz.underlying9
  a9 := Tryz.isAgg9
  z9 := Tryz.sizeOf9
  v9 := Tryz.zeroValue9
  t28 := Tryz.underlying70
  a28 := Tryz.isAgg70
  z28 := Tryz.sizeOf70
  v28 := Tryz.zeroValue70
  t46 := Tryz.underlying234
  a46 := Tryz.isAgg234
  z46 := Tryz.sizeOf234
  v46 := Tryz.zeroValue234
  t51 := Tryz.underlying281
  a51 := Tryz.isAgg281
  z51 := Tryz.sizeOf281
  v51 := Tryz.zeroValue281
  t53 := Tryz.underlying38
  a53 := Tryz.isAgg38
  z53 := Tryz.sizeOf38
  v53 := Tryz.zeroValue38
  t131 := Tryz.underlying335
  a131 := Tryz.isAgg335
  z131 := Tryz.sizeOf335
  v131 := Tryz.zeroValue335
  t182 := Tryz.underlying330
  a182 := Tryz.isAgg330
  z182 := Tryz.sizeOf330
  v182 := Tryz.zeroValue330
  t183 := Tryz.underlying331
  a183 := Tryz.isAgg331
  z183 := Tryz.sizeOf331
  v183 := Tryz.zeroValue331
  t218 := Tryz.underlying343
  a218 := Tryz.isAgg343
  z218 := Tryz.sizeOf343
  v218 := Tryz.zeroValue343
  t222 := Tryz.underlying347
  a222 := Tryz.isAgg347
  z222 := Tryz.sizeOf347
  v222 := Tryz.zeroValue347
  t228 := Tryz.underlying356
  a228 := Tryz.isAgg356
  z228 := Tryz.sizeOf356
  v228 := Tryz.zeroValue356
  t229 := Tryz.underlying357
  a229 := Tryz.isAgg357
  z229 := Tryz.sizeOf357
  v229 := Tryz.zeroValue357 }
theorem Tryz.slices_Sort_int (blk off cap : Nat) (zs : List Int) (w : World) (hH : Holds (Value.int .i64) w blk off zs.toArray) (hblk : blk < w.heap.size) (hsz : zs.length < 4611686018427387904) :
    Calls Tryz.prog 206 #[.slice (some ⟨blk, off, none⟩) zs.length cap] w fun e w' =>
      e = .returned (.tuple #[]) ∧ ∃ n os, w' = grow (putRow (Value.int .i64) (Sort.ahead w n) blk off (zs.mergeSort fun x y => decide (x ≤ y)).toArray) os := Any.slices_Sort_int Tryz.lays189 blk off cap zs w hH hblk hsz
def Tryz.lays105_ren : Go.Shelf.Ren := ⟨fun | 105 => 109 | 212 => 173 | 99 => 174 | 165 => 175 | 166 => 118 | 170 => 176 | 169 => 119 | 263 => 212 | 264 => 213 | 206 => 214 | 240 => 183 | 241 => 215 | 276 => 219 | 277 => 239 | n => n, fun | 9 => 9 | 3 => 3 | 4 => 4 | 20 => 20 | 0 => 0 | 46 => 234 | 109 => 235 | 5 => 5 | 72 => 181 | 76 => 182 | 51 => 281 | 146 => 282 | 53 => 38 | 148 => 284 | 70 => 179 | 37 => 41 | 75 => 156 | 127 => 249 | 164 => 263 | 80 => 86 | n => n, fun | n => n⟩
theorem Tryz.lays105 : Go.Proofs.Lays.n105 Tryz.prog Tryz.lays105_ren := {
  mixed := by kernel_rfl
  f99 := Tryz.func174.trans (congrArg some (by kernel_rfl))
  f105 := Tryz.func109.trans (congrArg some (by kernel_rfl))
  f165 := Tryz.func175.trans (congrArg some (by kernel_rfl))
  f166 := Tryz.func118.trans (congrArg some (by kernel_rfl))
  f169 := Tryz.func119.trans (congrArg some (by kernel_rfl))
  f170 := Tryz.func176.trans (congrArg some (by kernel_rfl))
  f206 := Tryz.func214.trans (congrArg some (by kernel_rfl))
  f212 := Tryz.func173.trans (congrArg some (by kernel_rfl))
  f240 := Tryz.func183.trans (congrArg some (by kernel_rfl))
  f241 := Tryz.func215.trans (congrArg some (by kernel_rfl))
  f263 := Tryz.func212.trans (congrArg some (by kernel_rfl))
  f264 := Tryz.func213.trans (congrArg some (by kernel_rfl))
  f276 := Tryz.func219.trans (congrArg some (by kernel_rfl))
  f277 := Tryz.func239.trans (congrArg some (by kernel_rfl))
  t0 := Tryz.underlying0
  a0 := Tryz.isAgg0
  z0 := Tryz.sizeOf0
  v0 := Tryz.zeroValue0
  t3 := Tryz.underlying3
  a3 := Tryz.isAgg3
  z3 := Tryz.sizeOf3
  v3 := Tryz.zeroValue3
  t4 := Tryz.underlying4
  a4 := Tryz.isAgg4
  z4 := Tryz.sizeOf4
  v4 := Tryz.zeroValue4
  t5 := Tryz.underlying5
  a5 := Tryz.isAgg5
  z5 := Tryz.sizeOf5
  v5 := Tryz.zeroValue5
  t9 := Tryz.underlying9
  a9 := Tryz.isAgg9
  z9 := Tryz.sizeOf9
  v9 := Tryz.zeroValue9
  t20 := Tryz.underlying20
  a20 := Tryz.isAgg20
  z20 := Tryz.sizeOf20
  v20 := Tryz.zeroValue20
  t37 := Tryz.underlying41
  a37 := Tryz.isAgg41
  z37 := Tryz.sizeOf41
  v37 := Tryz.zeroValue41
  t46 := Tryz.underlying234
  a46 := Tryz.isAgg234
  z46 := Tryz.sizeOf234
  v46 := Tryz.zeroValue234
  t51 := Tryz.underlying281
  a51 := Tryz.isAgg281
  z51 := Tryz.sizeOf281
  v51 := Tryz.zeroValue281
  t53 := Tryz.underlying38
  a53 := Tryz.isAgg38
  z53 := Tryz.sizeOf38
  v53 := Tryz.zeroValue38
  t70 := Tryz.underlying179
  a70 := Tryz.isAgg179
  z70 := Tryz.sizeOf179
  v70 := Tryz.zeroValue179
  t72 := Tryz.underlying181
  a72 := Tryz.isAgg181
  z72 := Tryz.sizeOf181
  v72 := Tryz.zeroValue181
  t75 := Tryz.underlying156
  a75 := Tryz.isAgg156
  z75 := Tryz.sizeOf156
  v75 := Tryz.zeroValue156
  t76 := Tryz.underlying182
  a76 := Tryz.isAgg182
  z76 := Tryz.sizeOf182
  v76 := Tryz.zeroValue182
  t109 := Tryz.underlying235
  a109 := Tryz.isAgg235
  z109 := Tryz.sizeOf235
  v109 := Tryz.zeroValue235
  t127 := Tryz.underlying249
  a127 := Tryz.isAgg249
  z127 := Tryz.sizeOf249
  v127 := Tryz.zeroValue249
  t146 := Tryz.underlying282
  a146 := Tryz.isAgg282
  z146 := Tryz.sizeOf282
  v146 := Tryz.zeroValue282
  t148 := Tryz.underlying284
  a148 := Tryz.isAgg284
  z148 := Tryz.sizeOf284
  v148 := Tryz.zeroValue284
  t164 := Tryz.underlying263
  a164 := Tryz.isAgg263
  z164 := Tryz.sizeOf263
  v164 := Tryz.zeroValue263 }
theorem Tryz.Builder_Extra_105 : Builder.Extra Tryz.prog Tryz.lays105_ren := {
  sizeBuilder := by kernel_rfl
  liesBuilder := by kernel_rfl
  t5 := Tryz.underlying5
  a5 := Tryz.isAgg5
  z5 := Tryz.sizeOf5
  v5 := Tryz.zeroValue5
  infoByte := by kernel_rfl
  cellsByte := by kernel_rfl
  sizeByte := by kernel_rfl
  neB5 := by decide }
open Go.RowKit Go.Lib in

theorem Tryz.strings_Repeat (s : ByteArray) (c : Nat) (w : World) (hc : c ≤ 9223372036854775807) (hlen : s.size * c ≤ 140737488355328) :
    Calls Tryz.prog 109 #[.string s, .int .i64 c] w fun e w' => e = .returned (.string ⟨(Lib.repeatL s.data.toList c).toArray⟩) ∧ Below w.heap.size w w' := Any.strings_Repeat Tryz.lays105 Tryz.Builder_Extra_105 s c w hc hlen

theorem Tryz.slices_Sort_int_none (p : Option Addr) (cap : Nat) (w : World) :
    Calls Tryz.prog 206 #[.slice p 0 cap] w fun e w' => e = .returned (.tuple #[]) ∧ w' = w := Any.slices_Sort_int_none Tryz.lays189 p cap w
end Go.Proofs

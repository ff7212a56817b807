/- What the functions that ExtentNoneCardSaid reaches compute: part 1. -/
import Derived.Test.YtjgghofdajambaaGreatDoorAe5
import Derived.Test.YtjgghofdajambaaGreatDoorProg
import Derived.Test.YtjgghofdajambaaGreatDoorChecked
import Derived.Eval
import Derived.Shelf.Strings.Builder1
import Derived.Shelf.Strings.Builder2
import Derived.Shelf.Strings.BuilderF
import Derived.Shelf.Strings.Prefix
import Derived.Shelf.Bits.Mul64
import Derived.Shelf.Strings.Repeat
import Derived.Shelf.Sort.Plain
import Derived.Shelf.Slices.In.SortNone
set_option linter.unusedVariables false
set_option linter.unusedSimpArgs false
namespace Go.Proofs
instance Tryz.bt : Go.AE.BT := ⟨5, 181, [(31, "Error", 296), (275, "Error", 302), (275, "Unwrap", 303)]⟩
def Tryz.tab : Go.AE.Tab := [
  (1, ⟨.sc, 1, 8, [.nilf], none⟩),
  (2, ⟨.sc, 1, 8, [.int .i64 0], some (.int .i64)⟩),
  (3, ⟨.sc, 1, 8, [.int .i64 0], some (.int .i64)⟩),
  (4, ⟨.sc, 1, 1, [.bool false], some .bool⟩),
  (5, ⟨.sc, 1, 1, [.int .u8 0], some (.int .u8)⟩),
  (7, ⟨.struct [(2, 0), (3, 1), (4, 2), (6, 3)], 4, 24, [.int .i64 0, .int .i64 0, .bool false, .int .u8 0], some (.st (.pair (.int .i64) (.pair (.int .i64) (.pair .bool (.int .u8)))))⟩),
  (9, ⟨.sc, 1, 16, [.str []], some .str⟩),
  (12, ⟨.sc, 1, 8, [.int .u64 0], some (.int .u64)⟩),
  (20, ⟨.sc, 1, 16, [.nili], none⟩),
  (21, ⟨.sc, 1, 4, [.int .i32 0], some (.int .i32)⟩),
  (22, ⟨.slice 35, 1, 24, [.nils], some (.list (.st (.pair (.int .i64) (.pair (.int .i64) .str))))⟩),
  (23, ⟨.sc, 1, 8, [.nilf], none⟩),
  (24, ⟨.sc, 1, 8, [.nilf], none⟩),
  (25, ⟨.ptr 171, 1, 8, [.nilp], none⟩),
  (26, ⟨.ptr 153, 1, 8, [.nilp], none⟩),
  (28, ⟨.sc, 1, 8, [.nilf], none⟩),
  (29, ⟨.ptr 149, 1, 8, [.nilp], none⟩),
  (30, ⟨.sc, 1, 8, [.nilf], none⟩),
  (31, ⟨.sc, 1, 8, [.int .i64 0], some (.int .i64)⟩),
  (33, ⟨.sc, 1, 8, [.nilf], none⟩),
  (34, ⟨.struct [(3, 0), (3, 1), (9, 2)], 3, 32, [.int .i64 0, .int .i64 0, .str []], some (.st (.pair (.int .i64) (.pair (.int .i64) .str)))⟩),
  (35, ⟨.struct [(3, 0), (3, 1), (9, 2)], 3, 32, [.int .i64 0, .int .i64 0, .str []], some (.st (.pair (.int .i64) (.pair (.int .i64) .str)))⟩),
  (36, ⟨.sc, 1, 8, [.nilf], none⟩),
  (37, ⟨.sc, 1, 8, [.nilf], none⟩),
  (38, ⟨.sc, 1, 8, [.int .u64 0], some (.int .u64)⟩),
  (39, ⟨.sc, 1, 8, [.nilf], none⟩),
  (40, ⟨.sc, 1, 8, [.nilf], none⟩),
  (41, ⟨.slice 5, 1, 24, [.nils], some (.list (.int .u8))⟩),
  (42, ⟨.sc, 1, 8, [.nilf], none⟩),
  (43, ⟨.sc, 1, 8, [.nilf], none⟩),
  (45, ⟨.sc, 1, 8, [.nilf], none⟩),
  (47, ⟨.sc, 1, 8, [.nilf], none⟩),
  (48, ⟨.sc, 1, 8, [.nilf], none⟩),
  (49, ⟨.struct [(3, 0), (3, 1), (3, 2)], 3, 24, [.int .i64 0, .int .i64 0, .int .i64 0], some (.st (.pair (.int .i64) (.pair (.int .i64) (.int .i64))))⟩),
  (50, ⟨.struct [(3, 0), (3, 1), (3, 2)], 3, 24, [.int .i64 0, .int .i64 0, .int .i64 0], some (.st (.pair (.int .i64) (.pair (.int .i64) (.int .i64))))⟩),
  (52, ⟨.sc, 1, 8, [.nilf], none⟩),
  (53, ⟨.sc, 1, 8, [.nilf], none⟩),
  (54, ⟨.sc, 1, 8, [.nilf], none⟩),
  (55, ⟨.sc, 1, 8, [.nilf], none⟩),
  (56, ⟨.sc, 1, 8, [.nilf], none⟩),
  (57, ⟨.sc, 1, 8, [.nilf], none⟩),
  (59, ⟨.sc, 1, 8, [.nilf], none⟩),
  (60, ⟨.sc, 1, 8, [.nilf], none⟩),
  (61, ⟨.sc, 1, 8, [.nilf], none⟩),
  (62, ⟨.struct [(3, 0), (3, 1), (3, 2), (3, 3), (50, 4)], 7, 56, [.int .i64 0, .int .i64 0, .int .i64 0, .int .i64 0, .int .i64 0, .int .i64 0, .int .i64 0], some (.st (.pair (.int .i64) (.pair (.int .i64) (.pair (.int .i64) (.pair (.int .i64) (.pair (.int .i64) (.pair (.int .i64) (.int .i64))))))))⟩),
  (63, ⟨.struct [(3, 0), (3, 1), (3, 2), (3, 3), (50, 4)], 7, 56, [.int .i64 0, .int .i64 0, .int .i64 0, .int .i64 0, .int .i64 0, .int .i64 0, .int .i64 0], some (.st (.pair (.int .i64) (.pair (.int .i64) (.pair (.int .i64) (.pair (.int .i64) (.pair (.int .i64) (.pair (.int .i64) (.int .i64))))))))⟩),
  (64, ⟨.sc, 1, 8, [.nilf], none⟩),
  (65, ⟨.sc, 1, 8, [.nilf], none⟩),
  (66, ⟨.sc, 1, 8, [.nilf], none⟩),
  (68, ⟨.sc, 1, 8, [.nilf], none⟩),
  (69, ⟨.sc, 1, 8, [.nilf], none⟩),
  (70, ⟨.slice 3, 1, 24, [.nils], some (.list (.int .i64))⟩),
  (71, ⟨.ptr 192, 1, 8, [.nilp], none⟩),
  (72, ⟨.sc, 1, 8, [.nilf], none⟩),
  (73, ⟨.ptr 85, 1, 8, [.nilp], none⟩),
  (74, ⟨.sc, 1, 8, [.nilf], none⟩),
  (75, ⟨.sc, 1, 8, [.nilf], none⟩),
  (76, ⟨.sc, 1, 8, [.nilf], none⟩),
  (77, ⟨.sc, 1, 8, [.nilf], none⟩),
  (78, ⟨.sc, 1, 8, [.nilf], none⟩),
  (80, ⟨.sc, 1, 8, [.nilf], none⟩),
  (82, ⟨.sc, 1, 8, [.nilf], none⟩),
  (83, ⟨.slice 4, 1, 24, [.nils], some (.list .bool)⟩),
  (84, ⟨.struct [(83, 0)], 1, 24, [.nils], some (.st (.list .bool))⟩),
  (85, ⟨.struct [(83, 0)], 1, 24, [.nils], some (.st (.list .bool))⟩),
  (86, ⟨.sc, 1, 8, [.nilf], none⟩),
  (87, ⟨.sc, 1, 8, [.nilf], none⟩),
  (88, ⟨.struct [(3, 0), (3, 1)], 2, 16, [.int .i64 0, .int .i64 0], some (.st (.pair (.int .i64) (.int .i64)))⟩),
  (89, ⟨.struct [(3, 0), (3, 1)], 2, 16, [.int .i64 0, .int .i64 0], some (.st (.pair (.int .i64) (.int .i64)))⟩),
  (90, ⟨.struct [(89, 0), (3, 2)], 3, 24, [.int .i64 0, .int .i64 0, .int .i64 0], some (.st (.pair (.pair (.int .i64) (.int .i64)) (.int .i64)))⟩),
  (91, ⟨.struct [(89, 0), (3, 2)], 3, 24, [.int .i64 0, .int .i64 0, .int .i64 0], some (.st (.pair (.pair (.int .i64) (.int .i64)) (.int .i64)))⟩),
  (92, ⟨.ptr 197, 1, 8, [.nilp], none⟩),
  (94, ⟨.sc, 1, 8, [.nilf], none⟩),
  (95, ⟨.slice 91, 1, 24, [.nils], some (.list (.st (.pair (.pair (.int .i64) (.int .i64)) (.int .i64))))⟩),
  (97, ⟨.sc, 1, 8, [.nilf], none⟩),
  (98, ⟨.sc, 1, 8, [.nilf], none⟩),
  (100, ⟨.sc, 1, 8, [.nilf], none⟩),
  (101, ⟨.sc, 1, 8, [.nilf], none⟩),
  (102, ⟨.sc, 1, 8, [.nilf], none⟩),
  (103, ⟨.sc, 1, 8, [.nilf], none⟩),
  (104, ⟨.sc, 1, 8, [.nilf], none⟩),
  (105, ⟨.sc, 1, 8, [.nilf], none⟩),
  (106, ⟨.sc, 1, 8, [.nilf], none⟩),
  (107, ⟨.sc, 1, 8, [.nilf], none⟩),
  (108, ⟨.sc, 1, 8, [.nilf], none⟩),
  (109, ⟨.slice 115, 1, 24, [.nils], some (.list (.st (.pair (.int .i64) .bool)))⟩),
  (110, ⟨.sc, 1, 8, [.nilf], none⟩),
  (111, ⟨.sc, 1, 8, [.nilf], none⟩),
  (112, ⟨.sc, 1, 8, [.nilf], none⟩),
  (113, ⟨.sc, 1, 8, [.nilf], none⟩),
  (114, ⟨.struct [(3, 0), (4, 1)], 2, 16, [.int .i64 0, .bool false], some (.st (.pair (.int .i64) .bool))⟩),
  (115, ⟨.struct [(3, 0), (4, 1)], 2, 16, [.int .i64 0, .bool false], some (.st (.pair (.int .i64) .bool))⟩),
  (116, ⟨.sc, 1, 8, [.nilf], none⟩),
  (117, ⟨.slice 119, 1, 24, [.nils], some (.list (.st (.pair (.int .i64) (.pair (.pair (.int .i64) (.int .i64)) (.int .i64)))))⟩),
  (118, ⟨.struct [(3, 0), (91, 1)], 4, 32, [.int .i64 0, .int .i64 0, .int .i64 0, .int .i64 0], some (.st (.pair (.int .i64) (.pair (.pair (.int .i64) (.int .i64)) (.int .i64))))⟩),
  (119, ⟨.struct [(3, 0), (91, 1)], 4, 32, [.int .i64 0, .int .i64 0, .int .i64 0, .int .i64 0], some (.st (.pair (.int .i64) (.pair (.pair (.int .i64) (.int .i64)) (.int .i64))))⟩),
  (120, ⟨.sc, 1, 8, [.nilf], none⟩),
  (121, ⟨.sc, 1, 8, [.nilf], none⟩),
  (122, ⟨.sc, 1, 8, [.nilf], none⟩),
  (123, ⟨.struct [(89, 0), (9, 2)], 3, 32, [.int .i64 0, .int .i64 0, .str []], some (.st (.pair (.pair (.int .i64) (.int .i64)) .str))⟩),
  (124, ⟨.struct [(89, 0), (9, 2)], 3, 32, [.int .i64 0, .int .i64 0, .str []], some (.st (.pair (.pair (.int .i64) (.int .i64)) .str))⟩),
  (125, ⟨.struct [(3, 0), (124, 1), (124, 4)], 7, 72, [.int .i64 0, .int .i64 0, .int .i64 0, .str [], .int .i64 0, .int .i64 0, .str []], some (.st (.pair (.int .i64) (.pair (.pair (.pair (.int .i64) (.int .i64)) .str) (.pair (.pair (.int .i64) (.int .i64)) .str))))⟩),
  (126, ⟨.struct [(3, 0), (124, 1), (124, 4)], 7, 72, [.int .i64 0, .int .i64 0, .int .i64 0, .str [], .int .i64 0, .int .i64 0, .str []], some (.st (.pair (.int .i64) (.pair (.pair (.pair (.int .i64) (.int .i64)) .str) (.pair (.pair (.int .i64) (.int .i64)) .str))))⟩),
  (127, ⟨.ptr 203, 1, 8, [.nilp], none⟩),
  (129, ⟨.sc, 1, 8, [.nilf], none⟩),
  (131, ⟨.sc, 1, 8, [.nilf], none⟩),
  (132, ⟨.sc, 1, 8, [.nilf], none⟩),
  (133, ⟨.sc, 1, 8, [.nilf], none⟩),
  (135, ⟨.sc, 1, 8, [.nilf], none⟩),
  (136, ⟨.slice 126, 1, 24, [.nils], some (.list (.st (.pair (.int .i64) (.pair (.pair (.pair (.int .i64) (.int .i64)) .str) (.pair (.pair (.int .i64) (.int .i64)) .str)))))⟩),
  (138, ⟨.sc, 1, 8, [.nilf], none⟩),
  (139, ⟨.sc, 1, 8, [.nilf], none⟩),
  (140, ⟨.slice 144, 1, 24, [.nils], some (.list (.st (.pair (.int .i64) (.pair (.int .i64) (.pair (.int .i64) (.pair (.pair (.pair (.int .i64) (.int .i64)) .str) (.pair (.pair (.int .i64) (.int .i64)) .str)))))))⟩),
  (141, ⟨.sc, 1, 8, [.nilf], none⟩),
  (142, ⟨.sc, 1, 8, [.nilf], none⟩),
  (143, ⟨.struct [(3, 0), (3, 1), (126, 2)], 9, 88, [.int .i64 0, .int .i64 0, .int .i64 0, .int .i64 0, .int .i64 0, .str [], .int .i64 0, .int .i64 0, .str []], some (.st (.pair (.int .i64) (.pair (.int .i64) (.pair (.int .i64) (.pair (.pair (.pair (.int .i64) (.int .i64)) .str) (.pair (.pair (.int .i64) (.int .i64)) .str))))))⟩),
  (144, ⟨.struct [(3, 0), (3, 1), (126, 2)], 9, 88, [.int .i64 0, .int .i64 0, .int .i64 0, .int .i64 0, .int .i64 0, .str [], .int .i64 0, .int .i64 0, .str []], some (.st (.pair (.int .i64) (.pair (.int .i64) (.pair (.int .i64) (.pair (.pair (.pair (.int .i64) (.int .i64)) .str) (.pair (.pair (.int .i64) (.int .i64)) .str))))))⟩),
  (145, ⟨.sc, 1, 8, [.nilf], none⟩),
  (146, ⟨.slice 9, 1, 24, [.nils], some (.list .str)⟩),
  (147, ⟨.slice 164, 1, 24, [.nils], some (.list (.st (.pair (.int .i64) .str)))⟩),
  (148, ⟨.struct [(146, 0), (147, 1), (4, 2), (3, 3), (3, 4), (3, 5), (4, 6)], 7, 88, [.nils, .nils, .bool false, .int .i64 0, .int .i64 0, .int .i64 0, .bool false], some (.st (.pair (.list .str) (.pair (.list (.st (.pair (.int .i64) .str))) (.pair .bool (.pair (.int .i64) (.pair (.int .i64) (.pair (.int .i64) .bool)))))))⟩),
  (149, ⟨.struct [(146, 0), (147, 1), (4, 2), (3, 3), (3, 4), (3, 5), (4, 6)], 7, 88, [.nils, .nils, .bool false, .int .i64 0, .int .i64 0, .int .i64 0, .bool false], some (.st (.pair (.list .str) (.pair (.list (.st (.pair (.int .i64) .str))) (.pair .bool (.pair (.int .i64) (.pair (.int .i64) (.pair (.int .i64) .bool)))))))⟩),
  (150, ⟨.ptr 223, 1, 8, [.nilp], none⟩),
  (151, ⟨.ptr 218, 1, 8, [.nilp], none⟩),
  (152, ⟨.struct [(25, 0), (150, 1), (150, 2), (3, 3), (3, 4), (3, 5), (3, 6), (3, 7), (3, 8), (4, 9), (4, 10), (151, 11)], 12, 88, [.nilp, .nilp, .nilp, .int .i64 0, .int .i64 0, .int .i64 0, .int .i64 0, .int .i64 0, .int .i64 0, .bool false, .bool false, .nilp], none⟩),
  (153, ⟨.struct [(25, 0), (150, 1), (150, 2), (3, 3), (3, 4), (3, 5), (3, 6), (3, 7), (3, 8), (4, 9), (4, 10), (151, 11)], 12, 88, [.nilp, .nilp, .nilp, .int .i64 0, .int .i64 0, .int .i64 0, .int .i64 0, .int .i64 0, .int .i64 0, .bool false, .bool false, .nilp], none⟩),
  (154, ⟨.sc, 1, 8, [.nilf], none⟩),
  (155, ⟨.sc, 1, 16, [.nili], none⟩),
  (156, ⟨.sc, 1, 16, [.nili], none⟩),
  (157, ⟨.sc, 1, 8, [.nilf], none⟩),
  (158, ⟨.struct [(3, 0), (3, 1), (3, 2)], 3, 24, [.int .i64 0, .int .i64 0, .int .i64 0], some (.st (.pair (.int .i64) (.pair (.int .i64) (.int .i64))))⟩),
  (159, ⟨.struct [(3, 0), (3, 1), (3, 2)], 3, 24, [.int .i64 0, .int .i64 0, .int .i64 0], some (.st (.pair (.int .i64) (.pair (.int .i64) (.int .i64))))⟩),
  (160, ⟨.sc, 1, 8, [.nilf], none⟩),
  (161, ⟨.sc, 1, 8, [.nilf], none⟩),
  (162, ⟨.sc, 1, 8, [.nilf], none⟩),
  (163, ⟨.struct [(3, 0), (9, 1)], 2, 24, [.int .i64 0, .str []], some (.st (.pair (.int .i64) .str))⟩),
  (164, ⟨.struct [(3, 0), (9, 1)], 2, 24, [.int .i64 0, .str []], some (.st (.pair (.int .i64) .str))⟩),
  (165, ⟨.sc, 1, 8, [.nilf], none⟩),
  (166, ⟨.sc, 1, 8, [.nilf], none⟩),
  (167, ⟨.sc, 1, 8, [.nilf], none⟩),
  (168, ⟨.sc, 1, 8, [.nilf], none⟩),
  (169, ⟨.map 3 9, 1, 8, [.nilm], none⟩),
  (170, ⟨.struct [(146, 0), (169, 1), (147, 2), (3, 3), (70, 4), (3, 5), (4, 6)], 7, 104, [.nils, .nilm, .nils, .int .i64 0, .nils, .int .i64 0, .bool false], none⟩),
  (171, ⟨.struct [(146, 0), (169, 1), (147, 2), (3, 3), (70, 4), (3, 5), (4, 6)], 7, 104, [.nils, .nilm, .nils, .int .i64 0, .nils, .int .i64 0, .bool false], none⟩),
  (172, ⟨.sc, 1, 8, [.nilf], none⟩),
  (173, ⟨.slice 172, 1, 24, [.nils], none⟩),
  (175, ⟨.sc, 1, 8, [.nilf], none⟩),
  (176, ⟨.struct [(3, 0), (3, 1), (3, 2), (3, 3), (3, 4), (3, 5), (3, 6)], 7, 56, [.int .i64 0, .int .i64 0, .int .i64 0, .int .i64 0, .int .i64 0, .int .i64 0, .int .i64 0], some (.st (.pair (.int .i64) (.pair (.int .i64) (.pair (.int .i64) (.pair (.int .i64) (.pair (.int .i64) (.pair (.int .i64) (.int .i64))))))))⟩),
  (177, ⟨.struct [(3, 0), (3, 1), (3, 2), (3, 3), (3, 4), (3, 5), (3, 6)], 7, 56, [.int .i64 0, .int .i64 0, .int .i64 0, .int .i64 0, .int .i64 0, .int .i64 0, .int .i64 0], some (.st (.pair (.int .i64) (.pair (.int .i64) (.pair (.int .i64) (.pair (.int .i64) (.pair (.int .i64) (.pair (.int .i64) (.int .i64))))))))⟩),
  (178, ⟨.sc, 1, 8, [.nilf], none⟩),
  (179, ⟨.ptr 181, 1, 8, [.nilp], none⟩),
  (180, ⟨.struct [(179, 0), (41, 1)], 2, 32, [.nilp, .nils], none⟩),
  (181, ⟨.struct [(179, 0), (41, 1)], 2, 32, [.nilp, .nils], none⟩),
  (183, ⟨.sc, 1, 8, [.nilf], none⟩),
  (184, ⟨.sc, 1, 8, [.nilf], none⟩),
  (185, ⟨.sc, 1, 8, [.nilf], none⟩),
  (186, ⟨.sc, 1, 8, [.nilf], none⟩),
  (187, ⟨.sc, 1, 8, [.nilf], none⟩),
  (188, ⟨.ptr 253, 1, 8, [.nilp], none⟩),
  (189, ⟨.sc, 1, 8, [.nilf], none⟩),
  (190, ⟨.sc, 1, 8, [.nilf], none⟩),
  (191, ⟨.struct [(3, 0), (41, 1)], 2, 32, [.int .i64 0, .nils], some (.st (.pair (.int .i64) (.list (.int .u8))))⟩),
  (192, ⟨.struct [(3, 0), (41, 1)], 2, 32, [.int .i64 0, .nils], some (.st (.pair (.int .i64) (.list (.int .u8))))⟩),
  (193, ⟨.array 2 91, 6, 48, [.int .i64 0, .int .i64 0, .int .i64 0, .int .i64 0, .int .i64 0, .int .i64 0], some (.st (.pair (.pair (.pair (.int .i64) (.int .i64)) (.int .i64)) (.pair (.pair (.int .i64) (.int .i64)) (.int .i64))))⟩),
  (195, ⟨.sc, 1, 8, [.nilf], none⟩),
  (196, ⟨.struct [(26, 0), (50, 1)], 4, 32, [.nilp, .int .i64 0, .int .i64 0, .int .i64 0], none⟩),
  (197, ⟨.struct [(26, 0), (50, 1)], 4, 32, [.nilp, .int .i64 0, .int .i64 0, .int .i64 0], none⟩),
  (198, ⟨.sc, 1, 8, [.nilf], none⟩),
  (199, ⟨.sc, 1, 8, [.nilf], none⟩),
  (200, ⟨.sc, 1, 8, [.nilf], none⟩),
  (201, ⟨.sc, 1, 8, [.nilf], none⟩),
  (202, ⟨.struct [(26, 0), (50, 1)], 4, 32, [.nilp, .int .i64 0, .int .i64 0, .int .i64 0], none⟩),
  (203, ⟨.struct [(26, 0), (50, 1)], 4, 32, [.nilp, .int .i64 0, .int .i64 0, .int .i64 0], none⟩),
  (204, ⟨.sc, 1, 8, [.nilf], none⟩),
  (205, ⟨.slice 210, 1, 24, [.nils], some (.list (.st (.pair (.int .i64) (.pair (.int .i64) (.pair (.pair (.pair (.int .i64) (.int .i64)) .str) (.pair (.pair (.int .i64) (.int .i64)) .str))))))⟩),
  (207, ⟨.sc, 1, 8, [.nilf], none⟩),
  (208, ⟨.sc, 1, 8, [.nilf], none⟩),
  (209, ⟨.struct [(3, 0), (126, 1)], 8, 80, [.int .i64 0, .int .i64 0, .int .i64 0, .int .i64 0, .str [], .int .i64 0, .int .i64 0, .str []], some (.st (.pair (.int .i64) (.pair (.int .i64) (.pair (.pair (.pair (.int .i64) (.int .i64)) .str) (.pair (.pair (.int .i64) (.int .i64)) .str)))))⟩),
  (210, ⟨.struct [(3, 0), (126, 1)], 8, 80, [.int .i64 0, .int .i64 0, .int .i64 0, .int .i64 0, .str [], .int .i64 0, .int .i64 0, .str []], some (.st (.pair (.int .i64) (.pair (.int .i64) (.pair (.pair (.pair (.int .i64) (.int .i64)) .str) (.pair (.pair (.int .i64) (.int .i64)) .str)))))⟩),
  (211, ⟨.sc, 1, 8, [.nilf], none⟩),
  (212, ⟨.sc, 1, 8, [.nilf], none⟩),
  (213, ⟨.sc, 1, 8, [.nilf], none⟩),
  (214, ⟨.sc, 1, 8, [.nilf], none⟩),
  (215, ⟨.sc, 1, 8, [.nilf], none⟩),
  (216, ⟨.map 3 9, 1, 8, [.nilm], none⟩),
  (217, ⟨.struct [(216, 0), (216, 1)], 2, 16, [.nilm, .nilm], none⟩),
  (218, ⟨.struct [(216, 0), (216, 1)], 2, 16, [.nilm, .nilm], none⟩),
  (219, ⟨.sc, 1, 8, [.nilf], none⟩),
  (220, ⟨.ptr 31, 1, 8, [.nilp], none⟩),
  (221, ⟨.sc, 1, 8, [.nilf], none⟩),
  (222, ⟨.struct [(25, 0), (3, 1), (3, 2)], 3, 24, [.nilp, .int .i64 0, .int .i64 0], none⟩),
  (223, ⟨.struct [(25, 0), (3, 1), (3, 2)], 3, 24, [.nilp, .int .i64 0, .int .i64 0], none⟩),
  (224, ⟨.sc, 1, 8, [.nilf], none⟩),
  (225, ⟨.sc, 1, 8, [.nilf], none⟩),
  (226, ⟨.sc, 1, 8, [.nilf], none⟩),
  (227, ⟨.sc, 1, 8, [.nilf], none⟩),
  (229, ⟨.sc, 1, 8, [.nilf], none⟩),
  (230, ⟨.sc, 1, 8, [.nilf], none⟩),
  (232, ⟨.sc, 1, 8, [.nilf], none⟩),
  (233, ⟨.sc, 1, 8, [.nilf], none⟩),
  (234, ⟨.sc, 1, 8, [.int .u64 0], some (.int .u64)⟩),
  (236, ⟨.sc, 1, 8, [.nilf], none⟩),
  (237, ⟨.sc, 1, 8, [.nilf], none⟩),
  (238, ⟨.sc, 1, 8, [.nilf], none⟩),
  (239, ⟨.sc, 1, 8, [.nilf], none⟩),
  (241, ⟨.sc, 1, 8, [.nilf], none⟩),
  (242, ⟨.slice 245, 1, 24, [.nils], some (.list (.st (.pair (.int .i64) (.pair (.int .i64) (.list (.st (.pair (.int .i64) .str)))))))⟩),
  (243, ⟨.sc, 1, 8, [.nilf], none⟩),
  (244, ⟨.struct [(3, 0), (3, 1), (147, 2)], 3, 40, [.int .i64 0, .int .i64 0, .nils], some (.st (.pair (.int .i64) (.pair (.int .i64) (.list (.st (.pair (.int .i64) .str))))))⟩),
  (245, ⟨.struct [(3, 0), (3, 1), (147, 2)], 3, 40, [.int .i64 0, .int .i64 0, .nils], some (.st (.pair (.int .i64) (.pair (.int .i64) (.list (.st (.pair (.int .i64) .str))))))⟩),
  (246, ⟨.sc, 1, 8, [.nilf], none⟩),
  (248, ⟨.sc, 1, 8, [.nilf], none⟩),
  (249, ⟨.ptr 5, 1, 8, [.nilp], none⟩),
  (250, ⟨.sc, 1, 8, [.nilf], none⟩),
  (251, ⟨.array 4 5, 4, 4, [.int .u8 0, .int .u8 0, .int .u8 0, .int .u8 0], some (.st (.pair (.int .u8) (.pair (.int .u8) (.pair (.int .u8) (.int .u8)))))⟩),
  (252, ⟨.struct [(9, 0), (31, 1)], 2, 24, [.str [], .int .i64 0], some (.st (.pair .str (.int .i64)))⟩),
  (253, ⟨.struct [(9, 0), (31, 1)], 2, 24, [.str [], .int .i64 0], some (.st (.pair .str (.int .i64)))⟩),
  (254, ⟨.sc, 1, 8, [.nilf], none⟩),
  (256, ⟨.sc, 1, 8, [.nilf], none⟩),
  (257, ⟨.sc, 1, 8, [.nilf], none⟩),
  (259, ⟨.sc, 1, 8, [.nilf], none⟩),
  (260, ⟨.sc, 1, 8, [.nilf], none⟩),
  (261, ⟨.sc, 1, 8, [.nilf], none⟩),
  (262, ⟨.sc, 1, 8, [.nilf], none⟩),
  (264, ⟨.sc, 1, 8, [.int .u64 0], some (.int .u64)⟩),
  (267, ⟨.sc, 1, 8, [.nilf], none⟩),
  (269, ⟨.sc, 1, 16, [.nili], none⟩),
  (270, ⟨.sc, 1, 8, [.nilf], none⟩),
  (272, ⟨.sc, 1, 8, [.nilf], none⟩),
  (273, ⟨.sc, 1, 8, [.nilf], none⟩),
  (274, ⟨.sc, 1, 8, [.nilf], none⟩),
  (275, ⟨.ptr 277, 1, 8, [.nilp], none⟩),
  (278, ⟨.sc, 1, 8, [.nilf], none⟩),
  (279, ⟨.sc, 1, 8, [.nilf], none⟩),
  (280, ⟨.sc, 1, 8, [.nilf], none⟩),
  (281, ⟨.sc, 1, 4, [.int .u32 0], some (.int .u32)⟩),
  (283, ⟨.sc, 1, 8, [.nilf], none⟩),
  (285, ⟨.sc, 1, 8, [.nilf], none⟩),
  (286, ⟨.sc, 1, 8, [.nilf], none⟩),
  (287, ⟨.ptr 289, 1, 8, [.nilp], none⟩),
  (288, ⟨.struct [(150, 0), (3, 1), (3, 2), (3, 3), (246, 4), (4, 5)], 6, 48, [.nilp, .int .i64 0, .int .i64 0, .int .i64 0, .nilf, .bool false], none⟩),
  (289, ⟨.struct [(150, 0), (3, 1), (3, 2), (3, 3), (246, 4), (4, 5)], 6, 48, [.nilp, .int .i64 0, .int .i64 0, .int .i64 0, .nilf, .bool false], none⟩),
  (290, ⟨.sc, 1, 8, [.nilf], none⟩),
  (291, ⟨.sc, 1, 8, [.nilf], none⟩),
  (292, ⟨.ptr 322, 1, 8, [.nilp], none⟩),
  (293, ⟨.sc, 1, 8, [.nilf], none⟩),
  (294, ⟨.sc, 1, 8, [.nilf], none⟩),
  (295, ⟨.sc, 1, 8, [.nilf], none⟩),
  (296, ⟨.array 256 4, 256, 256, [.bool false, .bool false, .bool false, .bool false, .bool false, .bool false, .bool false, .bool false, .bool false, .bool false, .bool false, .bool false, .bool false, .bool false, .bool false, .bool false, .bool false, .bool false, .bool false, .bool false, .bool false, .bool false, .bool false, .bool false, .bool false, .bool false, .bool false, .bool false, .bool false, .bool false, .bool false, .bool false, .bool false, .bool false, .bool false, .bool false, .bool false, .bool false, .bool false, .bool false, .bool false, .bool false, .bool false, .bool false, .bool false, .bool false, .bool false, .bool false, .bool false, .bool false, .bool false, .bool false, .bool false, .bool false, .bool false, .bool false, .bool false, .bool false, .bool false, .bool false, .bool false, .bool false, .bool false, .bool false, .bool false, .bool false, .bool false, .bool false, .bool false, .bool false, .bool false, .bool false, .bool false, .bool false, .bool false, .bool false, .bool false, .bool false, .bool false, .bool false, .bool false, .bool false, .bool false, .bool false, .bool false, .bool false, .bool false, .bool false, .bool false, .bool false, .bool false, .bool false, .bool false, .bool false, .bool false, .bool false, .bool false, .bool false, .bool false, .bool false, .bool false, .bool false, .bool false, .bool false, .bool false, .bool false, .bool false, .bool false, .bool false, .bool false, .bool false, .bool false, .bool false, .bool false, .bool false, .bool false, .bool false, .bool false, .bool false, .bool false, .bool false, .bool false, .bool false, .bool false, .bool false, .bool false, .bool false, .bool false, .bool false, .bool false, .bool false, .bool false, .bool false, .bool false, .bool false, .bool false, .bool false, .bool false, .bool false, .bool false, .bool false, .bool false, .bool false, .bool false, .bool false, .bool false, .bool false, .bool false, .bool false, .bool false, .bool false, .bool false, .bool false, .bool false, .bool false, .bool false, .bool false, .bool false, .bool false, .bool false, .bool false, .bool false, .bool false, .bool false, .bool false, .bool false, .bool false, .bool false, .bool false, .bool false, .bool false, .bool false, .bool false, .bool false, .bool false, .bool false, .bool false, .bool false, .bool false, .bool false, .bool false, .bool false, .bool false, .bool false, .bool false, .bool false, .bool false, .bool false, .bool false, .bool false, .bool false, .bool false, .bool false, .bool false, .bool false, .bool false, .bool false, .bool false, .bool false, .bool false, .bool false, .bool false, .bool false, .bool false, .bool false, .bool false, .bool false, .bool false, .bool false, .bool false, .bool false, .bool false, .bool false, .bool false, .bool false, .bool false, .bool false, .bool false, .bool false, .bool false, .bool false, .bool false, .bool false, .bool false, .bool false, .bool false, .bool false, .bool false, .bool false, .bool false, .bool false, .bool false, .bool false, .bool false, .bool false, .bool false, .bool false, .bool false, .bool false, .bool false, .bool false, .bool false, .bool false, .bool false, .bool false, .bool false, .bool false, .bool false, .bool false, .bool false, .bool false, .bool false, .bool false, .bool false, .bool false, .bool false], none⟩),
  (297, ⟨.array 256 4, 256, 256, [.bool false, .bool false, .bool false, .bool false, .bool false, .bool false, .bool false, .bool false, .bool false, .bool false, .bool false, .bool false, .bool false, .bool false, .bool false, .bool false, .bool false, .bool false, .bool false, .bool false, .bool false, .bool false, .bool false, .bool false, .bool false, .bool false, .bool false, .bool false, .bool false, .bool false, .bool false, .bool false, .bool false, .bool false, .bool false, .bool false, .bool false, .bool false, .bool false, .bool false, .bool false, .bool false, .bool false, .bool false, .bool false, .bool false, .bool false, .bool false, .bool false, .bool false, .bool false, .bool false, .bool false, .bool false, .bool false, .bool false, .bool false, .bool false, .bool false, .bool false, .bool false, .bool false, .bool false, .bool false, .bool false, .bool false, .bool false, .bool false, .bool false, .bool false, .bool false, .bool false, .bool false, .bool false, .bool false, .bool false, .bool false, .bool false, .bool false, .bool false, .bool false, .bool false, .bool false, .bool false, .bool false, .bool false, .bool false, .bool false, .bool false, .bool false, .bool false, .bool false, .bool false, .bool false, .bool false, .bool false, .bool false, .bool false, .bool false, .bool false, .bool false, .bool false, .bool false, .bool false, .bool false, .bool false, .bool false, .bool false, .bool false, .bool false, .bool false, .bool false, .bool false, .bool false, .bool false, .bool false, .bool false, .bool false, .bool false, .bool false, .bool false, .bool false, .bool false, .bool false, .bool false, .bool false, .bool false, .bool false, .bool false, .bool false, .bool false, .bool false, .bool false, .bool false, .bool false, .bool false, .bool false, .bool false, .bool false, .bool false, .bool false, .bool false, .bool false, .bool false, .bool false, .bool false, .bool false, .bool false, .bool false, .bool false, .bool false, .bool false, .bool false, .bool false, .bool false, .bool false, .bool false, .bool false, .bool false, .bool false, .bool false, .bool false, .bool false, .bool false, .bool false, .bool false, .bool false, .bool false, .bool false, .bool false, .bool false, .bool false, .bool false, .bool false, .bool false, .bool false, .bool false, .bool false, .bool false, .bool false, .bool false, .bool false, .bool false, .bool false, .bool false, .bool false, .bool false, .bool false, .bool false, .bool false, .bool false, .bool false, .bool false, .bool false, .bool false, .bool false, .bool false, .bool false, .bool false, .bool false, .bool false, .bool false, .bool false, .bool false, .bool false, .bool false, .bool false, .bool false, .bool false, .bool false, .bool false, .bool false, .bool false, .bool false, .bool false, .bool false, .bool false, .bool false, .bool false, .bool false, .bool false, .bool false, .bool false, .bool false, .bool false, .bool false, .bool false, .bool false, .bool false, .bool false, .bool false, .bool false, .bool false, .bool false, .bool false, .bool false, .bool false, .bool false, .bool false, .bool false, .bool false, .bool false, .bool false, .bool false, .bool false, .bool false, .bool false, .bool false, .bool false, .bool false, .bool false, .bool false, .bool false, .bool false, .bool false, .bool false], none⟩),
  (299, ⟨.sc, 1, 8, [.nilf], none⟩),
  (300, ⟨.sc, 1, 8, [.nilf], none⟩),
  (301, ⟨.ptr 297, 1, 8, [.nilp], none⟩),
  (302, ⟨.sc, 1, 8, [.nilf], none⟩),
  (305, ⟨.ptr 374, 1, 8, [.nilp], none⟩),
  (306, ⟨.sc, 1, 8, [.nilf], none⟩),
  (307, ⟨.sc, 1, 8, [.nilf], none⟩),
  (308, ⟨.sc, 1, 8, [.nilf], none⟩),
  (309, ⟨.sc, 1, 16, [.nili], none⟩),
  (311, ⟨.sc, 1, 8, [.nilf], none⟩),
  (312, ⟨.sc, 1, 16, [.nili], none⟩),
  (313, ⟨.sc, 1, 16, [.nili], none⟩),
  (314, ⟨.slice 156, 1, 24, [.nils], none⟩),
  (315, ⟨.sc, 1, 8, [.nilf], none⟩),
  (316, ⟨.sc, 1, 8, [.nilf], none⟩),
  (317, ⟨.sc, 1, 8, [.nilf], none⟩),
  (318, ⟨.sc, 1, 8, [.nilf], none⟩),
  (319, ⟨.sc, 1, 8, [.nilf], none⟩),
  (320, ⟨.sc, 1, 8, [.nilf], none⟩),
  (321, ⟨.struct [(281, 0)], 1, 4, [.int .u32 0], some (.st (.int .u32))⟩),
  (322, ⟨.struct [(281, 0)], 1, 4, [.int .u32 0], some (.st (.int .u32))⟩),
  (323, ⟨.sc, 1, 8, [.nilf], none⟩),
  (324, ⟨.sc, 1, 8, [.nilf], none⟩),
  (326, ⟨.sc, 1, 8, [.nilf], none⟩),
  (327, ⟨.sc, 1, 8, [.nilf], none⟩),
  (328, ⟨.sc, 1, 8, [.nilf], none⟩),
  (329, ⟨.sc, 1, 8, [.nilf], none⟩),
  (330, ⟨.sc, 1, 8, [.int .i64 0], some (.int .i64)⟩),
  (332, ⟨.sc, 1, 8, [.nilf], none⟩),
  (333, ⟨.sc, 1, 8, [.nilf], none⟩),
  (334, ⟨.sc, 1, 8, [.nilf], none⟩),
  (336, ⟨.sc, 1, 8, [.nilf], none⟩),
  (337, ⟨.sc, 1, 8, [.nilf], none⟩),
  (338, ⟨.sc, 1, 8, [.nilf], none⟩),
  (339, ⟨.sc, 1, 8, [.nilf], none⟩),
  (341, ⟨.sc, 1, 8, [.nilf], none⟩),
  (342, ⟨.sc, 1, 8, [.nilf], none⟩),
  (343, ⟨.sc, 1, 8, [.int .u64 0], some (.int .u64)⟩),
  (344, ⟨.sc, 1, 8, [.nilf], none⟩),
  (345, ⟨.sc, 1, 8, [.nilf], none⟩),
  (346, ⟨.sc, 1, 8, [.nilf], none⟩),
  (347, ⟨.ptr 3, 1, 8, [.nilp], none⟩),
  (348, ⟨.sc, 1, 8, [.nilf], none⟩),
  (349, ⟨.array 256 5, 256, 256, [.int .u8 0, .int .u8 0, .int .u8 0, .int .u8 0, .int .u8 0, .int .u8 0, .int .u8 0, .int .u8 0, .int .u8 0, .int .u8 0, .int .u8 0, .int .u8 0, .int .u8 0, .int .u8 0, .int .u8 0, .int .u8 0, .int .u8 0, .int .u8 0, .int .u8 0, .int .u8 0, .int .u8 0, .int .u8 0, .int .u8 0, .int .u8 0, .int .u8 0, .int .u8 0, .int .u8 0, .int .u8 0, .int .u8 0, .int .u8 0, .int .u8 0, .int .u8 0, .int .u8 0, .int .u8 0, .int .u8 0, .int .u8 0, .int .u8 0, .int .u8 0, .int .u8 0, .int .u8 0, .int .u8 0, .int .u8 0, .int .u8 0, .int .u8 0, .int .u8 0, .int .u8 0, .int .u8 0, .int .u8 0, .int .u8 0, .int .u8 0, .int .u8 0, .int .u8 0, .int .u8 0, .int .u8 0, .int .u8 0, .int .u8 0, .int .u8 0, .int .u8 0, .int .u8 0, .int .u8 0, .int .u8 0, .int .u8 0, .int .u8 0, .int .u8 0, .int .u8 0, .int .u8 0, .int .u8 0, .int .u8 0, .int .u8 0, .int .u8 0, .int .u8 0, .int .u8 0, .int .u8 0, .int .u8 0, .int .u8 0, .int .u8 0, .int .u8 0, .int .u8 0, .int .u8 0, .int .u8 0, .int .u8 0, .int .u8 0, .int .u8 0, .int .u8 0, .int .u8 0, .int .u8 0, .int .u8 0, .int .u8 0, .int .u8 0, .int .u8 0, .int .u8 0, .int .u8 0, .int .u8 0, .int .u8 0, .int .u8 0, .int .u8 0, .int .u8 0, .int .u8 0, .int .u8 0, .int .u8 0, .int .u8 0, .int .u8 0, .int .u8 0, .int .u8 0, .int .u8 0, .int .u8 0, .int .u8 0, .int .u8 0, .int .u8 0, .int .u8 0, .int .u8 0, .int .u8 0, .int .u8 0, .int .u8 0, .int .u8 0, .int .u8 0, .int .u8 0, .int .u8 0, .int .u8 0, .int .u8 0, .int .u8 0, .int .u8 0, .int .u8 0, .int .u8 0, .int .u8 0, .int .u8 0, .int .u8 0, .int .u8 0, .int .u8 0, .int .u8 0, .int .u8 0, .int .u8 0, .int .u8 0, .int .u8 0, .int .u8 0, .int .u8 0, .int .u8 0, .int .u8 0, .int .u8 0, .int .u8 0, .int .u8 0, .int .u8 0, .int .u8 0, .int .u8 0, .int .u8 0, .int .u8 0, .int .u8 0, .int .u8 0, .int .u8 0, .int .u8 0, .int .u8 0, .int .u8 0, .int .u8 0, .int .u8 0, .int .u8 0, .int .u8 0, .int .u8 0, .int .u8 0, .int .u8 0, .int .u8 0, .int .u8 0, .int .u8 0, .int .u8 0, .int .u8 0, .int .u8 0, .int .u8 0, .int .u8 0, .int .u8 0, .int .u8 0, .int .u8 0, .int .u8 0, .int .u8 0, .int .u8 0, .int .u8 0, .int .u8 0, .int .u8 0, .int .u8 0, .int .u8 0, .int .u8 0, .int .u8 0, .int .u8 0, .int .u8 0, .int .u8 0, .int .u8 0, .int .u8 0, .int .u8 0, .int .u8 0, .int .u8 0, .int .u8 0, .int .u8 0, .int .u8 0, .int .u8 0, .int .u8 0, .int .u8 0, .int .u8 0, .int .u8 0, .int .u8 0, .int .u8 0, .int .u8 0, .int .u8 0, .int .u8 0, .int .u8 0, .int .u8 0, .int .u8 0, .int .u8 0, .int .u8 0, .int .u8 0, .int .u8 0, .int .u8 0, .int .u8 0, .int .u8 0, .int .u8 0, .int .u8 0, .int .u8 0, .int .u8 0, .int .u8 0, .int .u8 0, .int .u8 0, .int .u8 0, .int .u8 0, .int .u8 0, .int .u8 0, .int .u8 0, .int .u8 0, .int .u8 0, .int .u8 0, .int .u8 0, .int .u8 0, .int .u8 0, .int .u8 0, .int .u8 0, .int .u8 0, .int .u8 0, .int .u8 0, .int .u8 0, .int .u8 0, .int .u8 0, .int .u8 0, .int .u8 0, .int .u8 0, .int .u8 0, .int .u8 0, .int .u8 0, .int .u8 0, .int .u8 0, .int .u8 0, .int .u8 0, .int .u8 0, .int .u8 0, .int .u8 0, .int .u8 0, .int .u8 0, .int .u8 0, .int .u8 0, .int .u8 0, .int .u8 0], none⟩),
  (350, ⟨.struct [(5, 0), (5, 1)], 2, 2, [.int .u8 0, .int .u8 0], some (.st (.pair (.int .u8) (.int .u8)))⟩),
  (351, ⟨.struct [(5, 0), (5, 1)], 2, 2, [.int .u8 0, .int .u8 0], some (.st (.pair (.int .u8) (.int .u8)))⟩),
  (352, ⟨.array 16 351, 32, 32, [.int .u8 0, .int .u8 0, .int .u8 0, .int .u8 0, .int .u8 0, .int .u8 0, .int .u8 0, .int .u8 0, .int .u8 0, .int .u8 0, .int .u8 0, .int .u8 0, .int .u8 0, .int .u8 0, .int .u8 0, .int .u8 0, .int .u8 0, .int .u8 0, .int .u8 0, .int .u8 0, .int .u8 0, .int .u8 0, .int .u8 0, .int .u8 0, .int .u8 0, .int .u8 0, .int .u8 0, .int .u8 0, .int .u8 0, .int .u8 0, .int .u8 0, .int .u8 0], some (.st (.pair (.pair (.int .u8) (.int .u8)) (.pair (.pair (.int .u8) (.int .u8)) (.pair (.pair (.int .u8) (.int .u8)) (.pair (.pair (.int .u8) (.int .u8)) (.pair (.pair (.int .u8) (.int .u8)) (.pair (.pair (.int .u8) (.int .u8)) (.pair (.pair (.int .u8) (.int .u8)) (.pair (.pair (.int .u8) (.int .u8)) (.pair (.pair (.int .u8) (.int .u8)) (.pair (.pair (.int .u8) (.int .u8)) (.pair (.pair (.int .u8) (.int .u8)) (.pair (.pair (.int .u8) (.int .u8)) (.pair (.pair (.int .u8) (.int .u8)) (.pair (.pair (.int .u8) (.int .u8)) (.pair (.pair (.int .u8) (.int .u8)) (.pair (.int .u8) (.int .u8))))))))))))))))))⟩),
  (353, ⟨.sc, 1, 8, [.nilf], none⟩),
  (354, ⟨.sc, 1, 8, [.nilf], none⟩),
  (355, ⟨.sc, 1, 8, [.nilf], none⟩),
  (356, ⟨.ptr 343, 1, 8, [.nilp], none⟩),
  (358, ⟨.sc, 1, 8, [.nilf], none⟩),
  (366, ⟨.sc, 1, 8, [.nilf], none⟩),
  (371, ⟨.sc, 1, 8, [.nilf], none⟩),
  (372, ⟨.sc, 1, 8, [.nilf], none⟩),
  (375, ⟨.ptr 379, 1, 8, [.nilp], none⟩),
  (376, ⟨.sc, 1, 8, [.nilf], none⟩),
  (377, ⟨.sc, 1, 2, [.int .u16 0], some (.int .u16)⟩),
  (380, ⟨.slice 383, 1, 24, [.nils], some (.list (.st (.pair (.int .i32) (.pair (.int .i32) (.pair (.int .i32) (.int .i32))))))⟩),
  (384, ⟨.ptr 156, 1, 8, [.nilp], none⟩)]
end Go.Proofs
namespace Go.Proofs.R7
open Go Go.AE
theorem tabOk : TabOk Tryz.prog Tryz.tab := tabOk_of_check (by kernel_rfl)
theorem mixed : Tryz.prog.follows .mixedOrders = true := Checked.mixed Tryz.checked
end Go.Proofs.R7
namespace Go.Proofs
open Go.Shelf Go.Sort Go.RowKit
def Tryz.lays189_ren : Go.Shelf.Ren := ⟨fun | 189 => 206 | 125 => 236 | 257 => 235 | 128 => 257 | 129 => 258 | 294 => 248 | 295 => 249 | 296 => 250 | 297 => 251 | 298 => 252 | 299 => 253 | 216 => 254 | 300 => 255 | 301 => 256 | 328 => 265 | 329 => 266 | 330 => 267 | 331 => 268 | 332 => 269 | 215 => 270 | 343 => 275 | n => n, fun | 28 => 70 | 3 => 3 | 46 => 234 | 0 => 0 | 51 => 281 | 53 => 38 | 4 => 4 | 183 => 331 | 182 => 330 | 131 => 335 | 5 => 5 | 9 => 9 | 218 => 343 | 222 => 347 | 228 => 356 | 229 => 357 | n => n, fun | n => n⟩
theorem Tryz.lays189 : Go.Proofs.Lays.n189 Tryz.prog Tryz.lays189_ren := {
  mixed := by kernel_rfl
  f125 := Tryz.func236.trans (congrArg some (by kernel_rfl))
  f128 := Tryz.func257.trans (congrArg some (by kernel_rfl))
  f129 := Tryz.func258.trans (congrArg some (by kernel_rfl))
  f189 := Tryz.func206.trans (congrArg some (by kernel_rfl))
  f215 := Tryz.func270.trans (congrArg some (by kernel_rfl))
  f216 := Tryz.func254.trans (congrArg some (by kernel_rfl))
  f257 := Tryz.func235.trans (congrArg some (by kernel_rfl))
  f294 := Tryz.func248.trans (congrArg some (by kernel_rfl))
  f295 := Tryz.func249.trans (congrArg some (by kernel_rfl))
  f296 := Tryz.func250.trans (congrArg some (by kernel_rfl))
  f297 := Tryz.func251.trans (congrArg some (by kernel_rfl))
  f298 := Tryz.func252.trans (congrArg some (by kernel_rfl))
  f299 := Tryz.func253.trans (congrArg some (by kernel_rfl))
  f300 := Tryz.func255.trans (congrArg some (by kernel_rfl))
  f301 := Tryz.func256.trans (congrArg some (by kernel_rfl))
  f328 := Tryz.func265.trans (congrArg some (by kernel_rfl))
  f329 := Tryz.func266.trans (congrArg some (by kernel_rfl))
  f330 := Tryz.func267.trans (congrArg some (by kernel_rfl))
  f331 := Tryz.func268.trans (congrArg some (by kernel_rfl))
  f332 := Tryz.func269.trans (congrArg some (by kernel_rfl))
  f343 := Tryz.func275.trans (congrArg some (by kernel_rfl))
  t0 := Tryz.underlying0
  a0 := Tryz.isAgg0
  z0 := Tryz.sizeOf0
  v0 := Tryz.zeroValue0
  t3 := Tryz.underlying3
  a3 := Tryz.isAgg3
  z3 := Tryz.sizeOf3
  v3 := Tryz.zeroValue3
  t4 := Tryz.underlying4
  a4 := Tryz.isAgg4
  z4 := Tryz.sizeOf4
  v4 := Tryz.zeroValue4
  t5 := Tryz.underlying5
  a5 := Tryz.isAgg5
  z5 := Tryz.sizeOf5
  v5 := Tryz.zeroValue5
  t9 := Tryz.underlying9
  a9 := Tryz.isAgg9
  z9 := Tryz.sizeOf9
  v9 := Tryz.zeroValue9
  t28 := Tryz.underlying70
  a28 := Tryz.isAgg70
  z28 := Tryz.sizeOf70
  v28 := Tryz.zeroValue70
  t46 := Tryz.underlying234
  a46 := Tryz.isAgg234
  z46 := Tryz.sizeOf234
  v46 := Tryz.zeroValue234
  t51 := Tryz.underlying281
  a51 := Tryz.isAgg281
  z51 := Tryz.sizeOf281
  v51 := Tryz.zeroValue281
  t53 := Tryz.underlying38
  a53 := Tryz.isAgg38
  z53 := Tryz.sizeOf38
  v53 := Tryz.zeroValue38
  t131 := Tryz.underlying335
  a131 := Tryz.isAgg335
  z131 := Tryz.sizeOf335
  v131 := Tryz.zeroValue335
  t182 := Tryz.underlying330
  a182 := Tryz.isAgg330
  z182 := Tryz.sizeOf330
  v182 := Tryz.zeroValue330
  t183 := Tryz.underlying331
  a183 := Tryz.isAgg331
  z183 := Tryz.sizeOf331
  v183 := Tryz.zeroValue331
  t218 := Tryz.underlying343
  a218 := Tryz.isAgg343
  z218 := Tryz.sizeOf343
  v218 := Tryz.zeroValue343
  t222 := Tryz.underlying347
  a222 := Tryz.isAgg347
  z222 := Tryz.sizeOf347
  v222 := Tryz.zeroValue347
  t228 := Tryz.underlying356
  a228 := Tryz.isAgg356
  z228 := Tryz.sizeOf356
  v228 := Tryz.zeroValue356
  t229 := Tryz.underlying357
  a229 := Tryz.isAgg357
  z229 := Tryz.sizeOf357
  v229 := Tryz.zeroValue357 }
theorem Tryz.slices_Sort_int (blk off cap : Nat) (zs : List Int) (w : World) (hH : Holds (Value.int .i64) w blk off zs.toArray) (hblk : blk < w.heap.size) (hsz : zs.length < 4611686018427387904) :
    Calls Tryz.prog 206 #[.slice (some ⟨blk, off, none⟩) zs.length cap] w fun e w' =>
      e = .returned (.tuple #[]) ∧ ∃ n os, w' = grow (putRow (Value.int .i64) (Sort.ahead w n) blk off (zs.mergeSort fun x y => decide (x ≤ y)).toArray) os := Any.slices_Sort_int Tryz.lays189 blk off cap zs w hH hblk hsz
def Tryz.lays105_ren : Go.Shelf.Ren := ⟨fun | 105 => 109 | 212 => 173 | 99 => 174 | 165 => 175 | 166 => 118 | 170 => 176 | 169 => 119 | 263 => 212 | 264 => 213 | 206 => 214 | 240 => 183 | 241 => 215 | 276 => 219 | 277 => 239 | n => n, fun | 9 => 9 | 3 => 3 | 4 => 4 | 20 => 20 | 0 => 0 | 46 => 234 | 109 => 235 | 5 => 5 | 72 => 181 | 76 => 182 | 51 => 281 | 146 => 282 | 53 => 38 | 148 => 284 | 70 => 179 | 37 => 41 | 75 => 156 | 127 => 249 | 164 => 263 | 80 => 86 | n => n, fun | n => n⟩
theorem Tryz.lays105 : Go.Proofs.Lays.n105 Tryz.prog Tryz.lays105_ren := {
  mixed := by kernel_rfl
  f99 := Tryz.func174.trans (congrArg some (by kernel_rfl))
  f105 := Tryz.func109.trans (congrArg some (by kernel_rfl))
  f165 := Tryz.func175.trans (congrArg some (by kernel_rfl))
  f166 := Tryz.func118.trans (congrArg some (by kernel_rfl))
  f169 := Tryz.func119.trans (congrArg some (by kernel_rfl))
  f170 := Tryz.func176.trans (congrArg some (by kernel_rfl))
  f206 := Tryz.func214.trans (congrArg some (by kernel_rfl))
  f212 := Tryz.func173.trans (congrArg some (by kernel_rfl))
  f240 := Tryz.func183.trans (congrArg some (by kernel_rfl))
  f241 := Tryz.func215.trans (congrArg some (by kernel_rfl))
  f263 := Tryz.func212.trans (congrArg some (by kernel_rfl))
  f264 := Tryz.func213.trans (congrArg some (by kernel_rfl))
  f276 := Tryz.func219.trans (congrArg some (by kernel_rfl))
  f277 := Tryz.func239.trans (congrArg some (by kernel_rfl))
  t0 := Tryz.underlying0
  a0 := Tryz.isAgg0
  z0 := Tryz.sizeOf0
  v0 := Tryz.zeroValue0
  t3 := Tryz.underlying3
  a3 := Tryz.isAgg3
  z3 := Tryz.sizeOf3
  v3 := Tryz.zeroValue3
  t4 := Tryz.underlying4
  a4 := Tryz.isAgg4
  z4 := Tryz.sizeOf4
  v4 := Tryz.zeroValue4
  t5 := Tryz.underlying5
  a5 := Tryz.isAgg5
  z5 := Tryz.sizeOf5
  v5 := Tryz.zeroValue5
  t9 := Tryz.underlying9
  a9 := Tryz.isAgg9
  z9 := Tryz.sizeOf9
  v9 := Tryz.zeroValue9
  t20 := Tryz.underlying20
  a20 := Tryz.isAgg20
  z20 := Tryz.sizeOf20
  v20 := Tryz.zeroValue20
  t37 := Tryz.underlying41
  a37 := Tryz.isAgg41
  z37 := Tryz.sizeOf41
  v37 := Tryz.zeroValue41
  t46 := Tryz.underlying234
  a46 := Tryz.isAgg234
  z46 := Tryz.sizeOf234
  v46 := Tryz.zeroValue234
  t51 := Tryz.underlying281
  a51 := Tryz.isAgg281
  z51 := Tryz.sizeOf281
  v51 := Tryz.zeroValue281
  t53 := Tryz.underlying38
  a53 := Tryz.isAgg38
  z53 := Tryz.sizeOf38
  v53 := Tryz.zeroValue38
  t70 := Tryz.underlying179
  a70 := Tryz.isAgg179
  z70 := Tryz.sizeOf179
  v70 := Tryz.zeroValue179
  t72 := Tryz.underlying181
  a72 := Tryz.isAgg181
  z72 := Tryz.sizeOf181
  v72 := Tryz.zeroValue181
  t75 := Tryz.underlying156
  a75 := Tryz.isAgg156
  z75 := Tryz.sizeOf156
  v75 := Tryz.zeroValue156
  t76 := Tryz.underlying182
  a76 := Tryz.isAgg182
  z76 := Tryz.sizeOf182
  v76 := Tryz.zeroValue182
  t109 := Tryz.underlying235
  a109 := Tryz.isAgg235
  z109 := Tryz.sizeOf235
  v109 := Tryz.zeroValue235
  t127 := Tryz.underlying249
  a127 := Tryz.isAgg249
  z127 := Tryz.sizeOf249
  v127 := Tryz.zeroValue249
  t146 := Tryz.underlying282
  a146 := Tryz.isAgg282
  z146 := Tryz.sizeOf282
  v146 := Tryz.zeroValue282
  t148 := Tryz.underlying284
  a148 := Tryz.isAgg284
  z148 := Tryz.sizeOf284
  v148 := Tryz.zeroValue284
  t164 := Tryz.underlying263
  a164 := Tryz.isAgg263
  z164 := Tryz.sizeOf263
  v164 := Tryz.zeroValue263 }
theorem Tryz.Builder_Extra_105 : Builder.Extra Tryz.prog Tryz.lays105_ren := {
  sizeBuilder := by kernel_rfl
  liesBuilder := by kernel_rfl
  t5 := Tryz.underlying5
  a5 := Tryz.isAgg5
  z5 := Tryz.sizeOf5
  v5 := Tryz.zeroValue5
  infoByte := by kernel_rfl
  cellsByte := by kernel_rfl
  sizeByte := by kernel_rfl
  neB5 := by decide }
open Go.RowKit Go.Lib in

theorem Tryz.strings_Repeat (s : ByteArray) (c : Nat) (w : World) (hc : c ≤ 9223372036854775807) (hlen : s.size * c ≤ 140737488355328) :
    Calls Tryz.prog 109 #[.string s, .int .i64 c] w fun e w' => e = .returned (.string ⟨(Lib.repeatL s.data.toList c).toArray⟩) ∧ Below w.heap.size w w' := Any.strings_Repeat Tryz.lays105 Tryz.Builder_Extra_105 s c w hc hlen

theorem Tryz.slices_Sort_int_none (p : Option Addr) (cap : Nat) (w : World) :
    Calls Tryz.prog 206 #[.slice p 0 cap] w fun e w' => e = .returned (.tuple #[]) ∧ w' = w := Any.slices_Sort_int_none Tryz.lays189 p cap w
end Go.Proofs
namespace Go.Proofs
open Go.RowKit Go.Maps Go.Sort Go.Shelf
open Go.AE (BT)

theorem R7.info3 : (Tryz.prog.info? 3).map (fun i => (i.zero, i.size, i.bytes)) = some (some (.int .i64 0), 1, 8) := by kernel_rfl

set_option maxRecDepth 100000 in
set_option maxHeartbeats 4000000 in
theorem R7.each205_ok : AE.IterOk Tryz.prog 205 (AE.eachStart .str) (AE.eachNx .str) := by
  refine ⟨⟨_, Tryz.func205, by kernel_rfl, by decide +kernel⟩, ?_⟩
  intro yv C cap us L J Jx hh hcap hstart hJ0 hJ1 hJ2 hJ3 hY
  obtain ⟨i0, hi, hz0, hz1, hz2⟩ := info_parts R7.info3
  unfold AE.eachStart at hstart
  obtain ⟨l, hl⟩ : ∃ l, AE.eachMap .str cap C.H = some l := by
    cases h : AE.eachMap .str cap C.H with
    | some l => exact ⟨l, rfl⟩
    | none => rw [h] at hstart; cases hstart
  rw [hl] at hstart
  replace hstart : (cond (Nat.ble l.length 1000000) (some (AE.keysOf l)) none) = some L := hstart
  obtain ⟨hlen, hL⟩ : l.length ≤ 1000000 ∧ AE.keysOf l = L := by
    cases hb : Nat.ble l.length 1000000 with
    | true => rw [hb, cond_true] at hstart; exact ⟨Nat.le_of_ble_eq_true hb, Option.some.inj hstart⟩
    | false => rw [hb, cond_false] at hstart; cases hstart
  obtain ⟨b, mo, es, x, hus, hblive, hcell, hmap, hmr, _, _, hmlive⟩ := AE.each_sees hh hcap hl
  obtain rfl : us = #[.pointer (some ⟨b, 0, none⟩)] := by
    cases us; simpa using hus
  have hb0 : b < C.w.heap.size := by obtain ⟨j, h1, h2⟩ := hblive; exact hh.blk_lt h1 h2
  have hm0 : ∀ m, mo = some m → m < C.w.heap.size := fun m hm => by obtain ⟨j, h1, h2⟩ := hmlive m hm; exact hh.blk_lt h1 h2
  have heslen : es.size = l.length := by have := hmr.length; simpa using this
  obtain ⟨hkeys, hks⟩ := AE.mrel_keys hmr
  clear hstart hcap
  have hlenv : ∀ (p : Option Addr) (n c : Nat) (w : World), (Builtin.len_ #[70] 3 #[.slice p n c]).run Tryz.prog w = .ok (.int .i64 n) w := fun p n c w => by
    simp [Builtin.len_, run_underlying Tryz.underlying70]
    rfl
  refine callsIn_of_wp Tryz.func205 rfl trivial ?_ rfl
  simp only [Tryz.ntmps205, List.size_toArray, List.length_cons, List.length_nil, Nat.reduceAdd, Nat.reduceSub, Array.replicate_succ, Array.replicate_zero, List.push_toArray, List.append_toArray, List.nil_append, List.cons_append]
  gi_wp2_with (first
    | (gi_at_range; refine AE.wpListIn_range_m _ rfl _ 216 rfl 3 9 Tryz.underlying216 mo es rfl hmap ?_; intro it hwalk)
    | gi_in)
  try go_frame
  have hB1 : Below C.w.heap.size C.w (C.w.alloc it) := (Below.refl _ C.w).alloc (Nat.le_refl _) _
  gi_loopw [3, 4] (fun p _ wr => ∃ (seen : Array Nat) (vis : List MapEntry), AE.WalkAt wr mo C.w.heap.size es seen ∧ vis.map (·.born) = seen.toList ∧ (∀ e ∈ vis, e ∈ es.toList) ∧ seen.toList.Nodup ∧
      wr.ownsRow (C.w.heap.size + 1) 3 1 p vis.length (vis.map (·.key)) ∧ Below C.w.heap.size C.w wr ∧ C.w.heap.size + 1 ≤ wr.heap.size)
    (fun _ _ wr => AE.walkLeft wr mo C.w.heap.size)
  case atStart =>
    exact ⟨#[], [], hwalk, rfl, by simp, by simp, World.ownsRow_nil _ _ _ _, hB1, by simp⟩
  case round =>
    obtain ⟨seen, vis, hw, hvs, hve, hnd, hrow, hB, hsz⟩ := hrel
    gi_wp2_with (first
      | (gi_at_next; refine AE.wpListIn_next_m _ rfl _ rfl mo C.w.heap.size es seen rfl hw ?_ ?_)
      | gi_in)
    · -- all have come
      intro hall
      have hb0' : (es.toList.map (·.born)).Nodup := by
        cases mo with
        | none => obtain ⟨rfl, _⟩ := hw; simp
        | some m => obtain ⟨ck, since, c0, _, hst, _⟩ := hw; exact hst.2.1
      obtain ⟨hvk, hsort, hvl⟩ := AE.visited_all hmr hb0' hvs hve hnd (by simpa using hall)
      have sortC : CallsIn Fence.wide 0 Tryz.prog 206 #[u3] wr fun e w' => e = .returned (.tuple #[]) ∧ w'.ownsRow (C.w.heap.size + 1) 3 1 u3 L.length (L.map (Value.int .i64)) ∧ Below C.w.heap.size C.w w' := by
        have hLl : L.length = vis.length := by rw [← hL, ← hsort, List.length_mergeSort, List.length_map]
        rcases hrow.2 with ⟨rfl, hz⟩ | ⟨gb, cap', cur, rfl, hbase, hgb, r1, r2, r3, r4⟩
        · refine (callsIn_wide.2 (Tryz.slices_Sort_int_none none 0 _)).mono ?_
          rintro e w' ⟨rfl, rfl⟩
          have hL0 : L = [] := List.eq_nil_of_length_eq_zero (by omega)
          rw [hL0]
          exact ⟨rfl, World.ownsRow_nil _ _ _ _, hB⟩
        · have ht : cur.toList.take (vis.map fun e => AE.keyI e.key).length = (vis.map fun e => AE.keyI e.key).map (Value.int .i64) := by
            rw [List.length_map, ← hvk, ← r4, Nat.mul_one]
          have hH : Holds (Value.int .i64) wr gb 0 (vis.map fun e => AE.keyI e.key).toArray := holds_of_blockI hgb ht
          have hgl : gb < wr.heap.size := (Array.getElem?_eq_some_iff.1 hgb).1
          have c := Tryz.slices_Sort_int gb 0 cap' (vis.map fun e => AE.keyI e.key) wr hH hgl (by rw [List.length_map]; omega)
          rw [List.length_map] at c
          refine (callsIn_wide.2 c).mono ?_
          rintro e w' ⟨rfl, nn, os, rfl⟩
          rw [hsort, hL]
          have hrow' := ownsRow_sortedI (w := wr) (base := C.w.heap.size + 1) (g := gb) (cap := cap') (n := nn) (e := 3) (os := os) (cur := cur) (ss := vis.map fun e => AE.keyI e.key) (ts := L) (by rw [List.length_map]; exact hLl) hbase hgb (by rw [List.length_map]; exact r1) r2 r3
          rw [List.length_map] at hrow'
          rw [hLl]
          exact ⟨rfl, hrow', hB.grown (grownBy_sortedI _) hB.size (fun j hj => by cases hj; omega)⟩
      gi_wp2_with (first | (refine ⟨trivial, rfl, ?_⟩; refine sortC.mono ?_; rintro e w1 ⟨rfl, hrow1, hB2⟩) | gi_in)
      -- between two calls
      obtain ⟨C10, cap10, hw10, hj10⟩ := hJ0
      obtain ⟨hh10, _, _⟩ := hJ1 _ _ _ hj10
      have hp1 : AE.Priv C.w.heap.size C10 w1 := AE.below_priv hh10 (by rw [hw10]; exact hB2) _
      have hj1 : J L (C10.at w1) cap10 := hJ2 _ _ _ _ hj10 hp1
      rcases hrow1.2 with ⟨rfl, hz⟩ | ⟨gb, cap', cur, rfl, hbase, hgb, r1, r2, r3, r4⟩
      · have hLn : L = [] := List.eq_nil_of_length_eq_zero hz
        have hlen1 := hlenv none 0 0 w1
        gi_wp2
        rw [hlen1]
        gi_wp2
        gi_loopw [21, 6] (fun p _ wr => p = .int .i64 0 ∧ wr = w1) (fun _ _ _ => 0)
        case atStart => exact ⟨rfl, rfl⟩
        case round =>
          obtain ⟨rfl, rfl⟩ := hrel
          gi_wp2
          go_end0
          rw [hLn] at hj1
          obtain ⟨_, _, o, ho⟩ := hJ1 _ _ _ hj1
          exact ⟨rfl, .inl ⟨[], C10.at wr, cap10, rfl, hj1, AE.next_end ho⟩⟩
      · have hlen1 := hlenv (some ⟨gb, 0, none⟩) L.length cap' w1
        gi_wp2
        rw [hlen1]
        gi_wp2
        have hLlen : L.length ≤ 1000000 := by rw [← hL, ← hsort, List.length_mergeSort, List.length_map]; omega
        clear hL hsort hvl hvk hall hw hvs hve hnd hrow hb0' sortC
        gi_loopw [21, 6] (fun p _ wr => ∃ (j : Nat) (C1 : AE.Cx) (cap1 : List AE.AV), p = .int .i64 j ∧ j ≤ L.length ∧ C1.w = wr ∧ J (L.drop j) C1 cap1 ∧ wr.heap[gb]? = some (.cells cur 3 (0, 0)) ∧ C1.Beside gb) (fun p _ _ => L.length - (intOf p).toNat)
        case atStart =>
          exact ⟨0, C10.at w1, cap10, rfl, by omega, rfl, hj1, hgb, AE.Beside.new hh10 (by rw [hw10]; omega)⟩
        case round =>
          obtain ⟨j, C1, cap1, rfl, hj, rfl, hjj, hgb1, hbs⟩ := hrel
          by_cases hlt : j < L.length
          · have hlt' : (j : Int) < (L.length : Int) := by omega
            obtain ⟨k, hk⟩ : ∃ k, L[j] = k := ⟨_, rfl⟩
            have hdrop : L.drop j = k :: L.drop (j + 1) := by rw [← hk]; exact List.drop_eq_getElem_cons hlt
            rw [hdrop] at hjj
            obtain ⟨hh1, hv1, o, ho⟩ := hJ1 _ _ _ hjj
            obtain ⟨l1, hl1, rfl⟩ := AE.next_at ho
            obtain ⟨b', mo1, es1, x1, hus1, _, hcell1, _, _, hx1, hmo1, _⟩ := AE.each_sees hh1 hv1 hl1
            obtain rfl : b = b' := by simpa using hus1
            obtain ⟨y, hlook, hy⟩ := AE.lookup_each R7.tabOk hh1 (tl := 216) rfl rfl hx1 hmo1 k
            have hval := hY _ _ _ _ _ hjj ho #[.int .i64 k, y] (by simp only [AE.VRels]; exact ⟨_, _, rfl, by rw [AE.VRel], _, _, rfl, hy, rfl⟩)
            have hcur : cur[j]? = some (.int .i64 k) := by
              have h1 : (cur.toList.take (L.length * 1))[j]? = (L.map (Value.int .i64))[j]? := by rw [r4]
              rw [List.getElem?_take, if_pos (by omega), List.getElem?_map, List.getElem?_eq_getElem hlt, hk] at h1
              simpa using h1
            have hrd : C1.w.cell? ⟨gb, j, none⟩ = some (.int .i64 k) := by
              rw [AE.cell_blk (AE.blkOf_cells hgb1)]
              exact hcur
            clear hY hy ho hmo1 hx1 hv1 hl1 hus1 hJ1
            gi_wp2_with (first
              | (refine AE.wpListIn_callv _ rfl (Operand.tmp 25) #[Operand.tmp 26, Operand.tmp 29] _ rfl hval rfl (by simp [Act.eval]) ?_; rintro e W' (⟨rfl, C', cap2, rfl, hj', hkept⟩ | ⟨rfl, C', rfl, hjx, hkept⟩) <;> refine ⟨_, rfl, ?_⟩)
              | gi_in)
            · obtain ⟨hg2, hb2⟩ := hkept.keep gb (by omega) (Array.getElem?_eq_some_iff.1 hgb1).1 hbs
              refine ⟨⟨j + 1, C', cap2, by simp, by omega, rfl, hj', hg2.trans hgb1, hb2⟩, ?_⟩
              simp [intOf]
              omega
            · refine bodyPost_ret (results_none rfl _ _ _) rfl ?_
              exact ⟨rfl, .inr ⟨C', rfl, hjx⟩⟩
          · have hge : ¬ (j : Int) < (L.length : Int) := by omega
            gi_wp2
            go_end0
            have hd : L.drop j = [] := List.drop_eq_nil_of_le (by omega)
            rw [hd] at hjj
            obtain ⟨_, _, o, ho⟩ := hJ1 _ _ _ hjj
            refine ⟨rfl, .inl ?_⟩
            first | exact ⟨[], C1, cap1, rfl, hjj, AE.next_end ho⟩ | exact ⟨[], C1, rfl, cap1, hjj, AE.next_end ho⟩
    · -- one more
      intro e he hes w' hw' hg hs hen
      have hem : e ∈ es.toList := by simpa using he
      have hkey := hkeys e hem
      have hw0 := hw
      have hes0 : e.born ∉ seen := by simpa using hes
      have hem0 := hem
      obtain ⟨e0, he0⟩ : ∃ e0, e = e0 := ⟨_, rfl⟩
      have hfresh : e.born ∉ seen.toList := by simpa using hes
      have hvlen : vis.length ≤ 1000000 := by
        have h2 : vis.Nodup := AE.nodup_of_map (·.born) (by rw [hvs]; exact hnd)
        have h3 := h2.length_le_of_subset hve
        have h4 := hmr.length
        omega
      have hmx : 2000000 ≤ maxLen := by decide
      obtain ⟨key, val, born⟩ := e
      dsimp only at hkey hen hes hw' ⊢
      obtain ⟨n0, hn0⟩ : ∃ n0, AE.keyI key = n0 := ⟨_, rfl⟩
      rw [hn0] at hkey
      subst hkey
      clear hn0
      have hs2 : wr.heap.size ≤ w'.heap.size ∧ w'.heap.size ≤ wr.heap.size := by omega
      clear hs
      have hrow2 : w'.ownsRow (C.w.heap.size + 1) 3 1 u3 vis.length (vis.map (·.key)) := AE.ownsRow_kept hrow hg (fun r e => by cases e; omega)
      have hblk := AE.ownBlock_base hrow2
      have hB2 : Below C.w.heap.size C.w w' := hB.grown hg hB.size (fun j e => by cases e; omega)
      have hrow3 := AE.ownsRow_kept hrow2 (World.grownBy_alloc w' (.cells #[.int .i64 n0] 3) none) (fun r e => by cases e)
      have e1 : vis.length + 1 ≤ maxLen := by omega
      have e2 : (vis.length + 1) * 8 ≤ 140737488355328 := by omega
      have e3 : C.w.heap.size + 1 ≤ (w'.alloc (.cells #[.int .i64 n0] 3)).heap.size := by rw [World.size_alloc]; omega
      gi_wp2_with (first
        | (gi_at_builtin; refine wpListIn_append_own _ rfl (.tmp 13) (.tmp 15) 70 rfl (C.w.heap.size + 1) 3 i0 (.int .i64 0) 1 8 Tryz.underlying70 hi hz0 hz1 hz2 rfl (by decide) u3 vis.length (vis.map (·.key)) rfl hrow3 ⟨w'.heap.size, 0, none⟩ 1 1 [.int .i64 n0] rfl rfl (cell_one_new _ _ _) (by simp [Value.oneCell']) e1 e2 e3 ?_; intro v' w3 hown' hgrow _; obtain ⟨g', cap', rfl⟩ := ownsRow_succ hown')
        | gi_in)
      have hWa : AE.WalkAt (w'.alloc (.cells #[.int .i64 n0] 3)) mo C.w.heap.size es (seen.push born) := hw'.kept (World.grownBy_alloc w' _ none) (fun _ _ h => by cases h) (fun h => by cases h)
      have hW3 : AE.WalkAt w3 mo C.w.heap.size es (seen.push born) := hWa.kept hgrow (fun b hb h => by have h1 := hblk _ h; have h2 := hm0 b hb; omega) (fun h => by have h1 := hblk _ h; omega)
      have hB3 : Below C.w.heap.size C.w w3 := (hB2.alloc hB2.size _).grown hgrow (by rw [World.size_alloc]; have := hB2.size; omega) (fun j h => by have h1 := hblk _ h; omega)
      refine ⟨⟨seen.push born, vis ++ [e0], hW3, by rw [List.map_append, hvs, ← he0]; simp, ?_, ?_, ?_, hB3, ?_⟩, hw0.left_lt hem0 hes0 hW3⟩
      · intro y hy
        rcases List.mem_append.1 hy with hy | hy
        · exact hve y hy
        · rw [List.mem_singleton.1 hy, ← he0]; exact hem
      · rw [Array.toList_push]
        exact List.nodup_append.2 ⟨hnd, by simp, fun a ha b hb => by rw [List.mem_singleton.1 hb]; intro e; rw [e] at ha; exact hfresh ha⟩
      · rw [List.map_append, List.length_append, ← he0]
        exact hown'
      · have h1 := hgrow.size
        rw [World.size_alloc] at h1
        omega
end Go.Proofs
namespace Go.Proofs.R7
open Go Go.AE
theorem Fstrings_Repeat_ok : PureOk Tryz.prog 109 Fstrings_Repeat :=
  Fstrings_Repeat_of (entered_of Tryz.func109 (by kernel_rfl) (by decide +kernel)) fun s c w h1 h2 => Tryz.strings_Repeat s c w h1 h2
theorem FBuilder_copyCheck_ok : FuncOk Tryz.prog 183 FBuilder_copyCheck :=
  FBuilder_copyCheck_of (ρ := Tryz.lays105_ren) { Tryz.lays105 with } Tryz.Builder_Extra_105.toX72 rfl (entered_of Tryz.func183 (by kernel_rfl) (by decide +kernel))
theorem FBuilder_String_ok : FuncOk Tryz.prog 119 FBuilder_String :=
  FBuilder_String_of (ρ := Tryz.lays105_ren) { Tryz.lays105 with } Tryz.Builder_Extra_105 rfl (entered_of Tryz.func119 (by kernel_rfl) (by decide +kernel))
theorem FBuilder_StringAgain_ok : FuncOk Tryz.prog 119 FBuilder_StringAgain :=
  FBuilder_StringAgain_of (ρ := Tryz.lays105_ren) { Tryz.lays105 with } Tryz.Builder_Extra_105 rfl (entered_of Tryz.func119 (by kernel_rfl) (by decide +kernel))
theorem iter205_spec : SpecOk Tryz.prog 100205 (.iter (eachBegin .str) (eachNext .str)) := each_spec R7.each205_ok
end Go.Proofs.R7
namespace Go.Proofs.R7
open Go Go.AE
set_option maxRecDepth 100000
--@ layout_within
noncomputable def envq32 : Env := []
theorem envq32Ok : EnvOk Tryz.prog envq32 := EnvOk.nil
noncomputable def bq32 : Code := Tryz.f140.body.getD .skip
noncomputable def Lq32_n0 : Code := codeAt [1,0] bq32
noncomputable def annLq32_n0 : Ann := .none
theorem annLq32_n0_ok : AnnOk Tryz.prog 15 Lq32_n0 annLq32_n0 := (annOk_none _ _ _)
abbrev Iq32_n0 := (Int) × (Int) × (Int)
abbrev Yq32_n0 := (Bool)
def Sq32_n0 : Iq32_n0 → St := fun (t0,t1,t2) => { env := [(0,.int .i64 t0),(1,.int .i64 t1),(2,.int .i64 t2)],stk := [[]],H := [],blk := 573440 }
def decPq32_n0 (s : St) : Option {x : Iq32_n0 // s = Sq32_n0 x} := match s with
  | { env := [(0,.int .i64 t0),(1,.int .i64 t1),(2,.int .i64 t2)],stk := [[]],H := [],blk := 573440 } => some ⟨(t0,t1,t2),rfl⟩
  | _ => none
def decq32_n0 (s : St) : Option Iq32_n0 := pk (decPq32_n0 s)
theorem decq32_n0_ok (s : St) (x : Iq32_n0) (h : decq32_n0 s = some x) : s = Sq32_n0 x := pk_ok (o := decPq32_n0 s) h
def outq32_n0 : Iq32_n0 → (Ex → St → Ans) → Yq32_n0 → Ans := fun (t0,t1,t2) K => fun t6_y => K (Ex.norm) { env := [(6,.bool t6_y)],stk := [[]],H := [],blk := 573440 }
def nodeq32_n0 {β : Type} : Iq32_n0 → (Yq32_n0 → Option β) → Option β := fun (t0,t1,t2) exit => (bif decide (t0 ≥ t1) then (exit (decide (t0 ≤ t2))) else (exit (false)))
def nodeDq32_n0 (i : Iq32_n0) : Option Yq32_n0 := nodeq32_n0 i some
theorem nodeq32_n0_nat (i : Iq32_n0) (k : Yq32_n0 → Ans) : nodeq32_n0 i k = bindO (nodeDq32_n0 i) k := by
  obtain ⟨t0,t1,t2⟩ := i
  simp only [nodeDq32_n0,nodeq32_n0,bindO_cond,bindO_assoc,bindO_none,bindO_pure,bindO_elim,bindO_unP,bindO_empty]
theorem nodeq32_n0_ok (i : Iq32_n0) (K : Ex → St → Ans) : codeI Tryz.tab envq32 noHint (codeD Tryz.tab envq32 noHint 0 64) 70 15 annLq32_n0 Lq32_n0 (weakP 0 (exk [6] [6] []) K) (Sq32_n0 i) = nodeq32_n0 i (outq32_n0 i K) := by kernel_rfl
theorem GNq32_n0_ok : CSum Tryz.prog 15 Lq32_n0 (sumN decq32_n0 nodeDq32_n0 outq32_n0) := csum_node mixed tabOk envq32Ok 0 (exk [6] [6] []) annLq32_n0_ok decq32_n0_ok nodeq32_n0_ok nodeq32_n0_nat
noncomputable def Gq32_n0 : (Ex → St → Ans) → St → Ans := (sumN decq32_n0 nodeDq32_n0 outq32_n0)
theorem Gq32_n0_ok : CSum Tryz.prog 15 Lq32_n0 Gq32_n0 := GNq32_n0_ok
noncomputable def annq32 : Ann := (.seq .none (.seq (.cut 0 [0,1,2] Gq32_n0) .none))
theorem annq32_ok : AnnOk Tryz.prog 15 bq32 annq32 := ⟨(annOk_none _ _ _),⟨Gq32_n0_ok,(annOk_none _ _ _)⟩⟩
abbrev Aq32 := (Int) × (Int) × (Int)
abbrev Yq32 := (Bool)
def fnq32 {β : Type} : Aq32 → (Yq32 → Option β) → Option β := fun (a0,a1,a2) exit => (bindO (nodeDq32_n0 (a0,a1,a2)) fun t6 => (exit (t6)))
def fnDq32 (a : Aq32) : Option Yq32 := fnq32 a some
theorem fnq32_nat (a : Aq32) (k : Yq32 → Ans) : fnq32 a k = bindO (fnDq32 a) k := by
  obtain ⟨a0,a1,a2⟩ := a
  simp only [fnDq32,fnq32,bindO_cond,bindO_assoc,bindO_none,bindO_pure,bindO_elim,bindO_unP,bindO_empty]
def argsq32 : Aq32 → List AV := fun (a0,a1,a2) => [.int .i64 a0,.int .i64 a1,.int .i64 a2]
def decPAq32 (l : List AV) : Option {a : Aq32 // l = argsq32 a} := match l with
  | [.int .i64 a0,.int .i64 a1,.int .i64 a2] => some ⟨(a0,a1,a2),rfl⟩
  | _ => none
def decAq32 (l : List AV) : Option Aq32 := pk (decPAq32 l)
theorem decAq32_ok (l : List AV) (a : Aq32) (h : decAq32 l = some a) : l = argsq32 a := pk_ok (o := decPAq32 l) h
def rendq32 : Aq32 → Yq32 → AV := fun (a0,a1,a2) => fun r_y => .bool r_y
theorem rendq32_ok : ∀ (a : Aq32) (y : Yq32),(rendq32 a y).closed1 = true := by
  rintro ⟨a0,a1,a2⟩ y <;> first | rfl | exact Empty.elim y
theorem fnq32_ok (a : Aq32) : fnE Tryz.tab envq32 noHint 0 70 140 Tryz.f140.ntmps Tryz.f140.results.toList annq32 bq32 (argsq32 a) [] (fun v _ => some (v,[])) = fnq32 a (fun y => some (rendq32 a y,[])) := by kernel_rfl
def vFq32 (a : Aq32) (K : AV → Ans) : Ans := bindO (fnDq32 a) fun y => K (rendq32 a y)
def Fq32 : List AV → (AV → Ans) → Ans := fun l K => bindO (decAq32 l) fun a => vFq32 a K
theorem Fq32_ok : PureOk Tryz.prog 140 Fq32 := pure_mkD (hint := noHint) (d := 0) (n := 70) mixed tabOk envq32Ok Tryz.func140 (bodySome (by kernel_rfl)) (by decide +kernel) annq32_ok decAq32_ok fnq32_ok fnq32_nat rendq32_ok
--@ layout_Check
noncomputable def envq26 : Env := [(140,.pure Fq32)]
theorem envq26Ok : EnvOk Tryz.prog envq26 := EnvOk.cons Fq32_ok (EnvOk.nil)
noncomputable def bq26 : Code := Tryz.f68.body.getD .skip
noncomputable def Lq26_n0 : Code := codeAt [1,0,0] bq26
noncomputable def annLq26_n0 : Ann := .none
theorem annLq26_n0_ok : AnnOk Tryz.prog 19 Lq26_n0 annLq26_n0 := (annOk_none _ _ _)
abbrev Iq26_n0 := (Int) × (Int) × (Int)
abbrev Yq26_n0 := (Bool)
def Sq26_n0 : Iq26_n0 → St := fun (o0_0,o0_1,o0_2) => { env := [(1,.ptr 0 0)],stk := [[]],H := [.cells [.int .i64 o0_0,.int .i64 o0_1,.int .i64 o0_2]],blk := 278528 }
def decPq26_n0 (s : St) : Option {x : Iq26_n0 // s = Sq26_n0 x} := match s with
  | { env := [(1,.ptr 0 0)],stk := [[]],H := [.cells [.int .i64 o0_0,.int .i64 o0_1,.int .i64 o0_2]],blk := 278528 } => some ⟨(o0_0,o0_1,o0_2),rfl⟩
  | _ => none
def decq26_n0 (s : St) : Option Iq26_n0 := pk (decPq26_n0 s)
theorem decq26_n0_ok (s : St) (x : Iq26_n0) (h : decq26_n0 s = some x) : s = Sq26_n0 x := pk_ok (o := decPq26_n0 s) h
def outq26_n0 : Iq26_n0 → (Ex → St → Ans) → Yq26_n0 → Ans := fun (o0_0,o0_1,o0_2) K => fun t18_y => K (Ex.norm) { env := [(18,.bool t18_y)],stk := [[]],H := [],blk := 278528 }
def nodeq26_n0 {β : Type} : Iq26_n0 → (Yq26_n0 → Option β) → Option β := fun (o0_0,o0_1,o0_2) exit => (bindO (fnDq32 (o0_0,(1 : Int),(24 : Int))) fun r => (bif !r then (exit (true)) else (bindO (fnDq32 (o0_1,(1 : Int),(8 : Int))) fun r_2 => (bif !r_2 then (exit (true)) else (bindO (fnDq32 (o0_2,(24 : Int),(200 : Int))) fun r_3 => (exit (!r_3)))))))
def nodeDq26_n0 (i : Iq26_n0) : Option Yq26_n0 := nodeq26_n0 i some
theorem nodeq26_n0_nat (i : Iq26_n0) (k : Yq26_n0 → Ans) : nodeq26_n0 i k = bindO (nodeDq26_n0 i) k := by
  obtain ⟨o0_0,o0_1,o0_2⟩ := i
  simp only [nodeDq26_n0,nodeq26_n0,bindO_cond,bindO_assoc,bindO_none,bindO_pure,bindO_elim,bindO_unP,bindO_empty]
theorem nodeq26_n0_ok (i : Iq26_n0) (K : Ex → St → Ans) : codeI Tryz.tab envq26 noHint (codeD Tryz.tab envq26 noHint 0 64) 70 19 annLq26_n0 Lq26_n0 (weakP 0 (exk [18] [2] []) K) (Sq26_n0 i) = nodeq26_n0 i (outq26_n0 i K) := by kernel_rfl
theorem GNq26_n0_ok : CSum Tryz.prog 19 Lq26_n0 (sumN decq26_n0 nodeDq26_n0 outq26_n0) := csum_node mixed tabOk envq26Ok 0 (exk [18] [2] []) annLq26_n0_ok decq26_n0_ok nodeq26_n0_ok nodeq26_n0_nat
noncomputable def Gq26_n0 : (Ex → St → Ans) → St → Ans := (sumN decq26_n0 nodeDq26_n0 outq26_n0)
theorem Gq26_n0_ok : CSum Tryz.prog 19 Lq26_n0 Gq26_n0 := GNq26_n0_ok
noncomputable def annq26 : Ann := (.seq .none (.seq (.seq (.cut 0 [1] Gq26_n0) .none) .none))
theorem annq26_ok : AnnOk Tryz.prog 19 bq26 annq26 := ⟨(annOk_none _ _ _),⟨⟨Gq26_n0_ok,(annOk_none _ _ _)⟩,(annOk_none _ _ _)⟩⟩
abbrev Aq26 := (Int) × (Int) × (Int)
abbrev Yq26 := (Int)
def fnq26 {β : Type} : Aq26 → (Yq26 → Option β) → Option β := fun (a0_0,a0_1,a0_2) exit => (bindO (nodeDq26_n0 (a0_0,a0_1,a0_2)) fun t18 => (bif t18 then (exit ((3 : Int))) else (exit ((0 : Int)))))
def fnDq26 (a : Aq26) : Option Yq26 := fnq26 a some
theorem fnq26_nat (a : Aq26) (k : Yq26 → Ans) : fnq26 a k = bindO (fnDq26 a) k := by
  obtain ⟨a0_0,a0_1,a0_2⟩ := a
  simp only [fnDq26,fnq26,bindO_cond,bindO_assoc,bindO_none,bindO_pure,bindO_elim,bindO_unP,bindO_empty]
def argsq26 : Aq26 → List AV := fun (a0_0,a0_1,a0_2) => [.agg [.int .i64 a0_0,.int .i64 a0_1,.int .i64 a0_2]]
def decPAq26 (l : List AV) : Option {a : Aq26 // l = argsq26 a} := match l with
  | [.agg [.int .i64 a0_0,.int .i64 a0_1,.int .i64 a0_2]] => some ⟨(a0_0,a0_1,a0_2),rfl⟩
  | _ => none
def decAq26 (l : List AV) : Option Aq26 := pk (decPAq26 l)
theorem decAq26_ok (l : List AV) (a : Aq26) (h : decAq26 l = some a) : l = argsq26 a := pk_ok (o := decPAq26 l) h
def rendq26 : Aq26 → Yq26 → AV := fun (a0_0,a0_1,a0_2) => fun r_y => .int .i64 r_y
theorem rendq26_ok : ∀ (a : Aq26) (y : Yq26),(rendq26 a y).closed1 = true := by
  rintro ⟨a0_0,a0_1,a0_2⟩ y <;> first | rfl | exact Empty.elim y
theorem fnq26_ok (a : Aq26) : fnE Tryz.tab envq26 noHint 0 70 68 Tryz.f68.ntmps Tryz.f68.results.toList annq26 bq26 (argsq26 a) [] (fun v _ => some (v,[])) = fnq26 a (fun y => some (rendq26 a y,[])) := by kernel_rfl
def vFq26 (a : Aq26) (K : AV → Ans) : Ans := bindO (fnDq26 a) fun y => K (rendq26 a y)
def Fq26 : List AV → (AV → Ans) → Ans := fun l K => bindO (decAq26 l) fun a => vFq26 a K
theorem Fq26_ok : PureOk Tryz.prog 68 Fq26 := pure_mkD (hint := noHint) (d := 0) (n := 70) mixed tabOk envq26Ok Tryz.func68 (bodySome (by kernel_rfl)) (by decide +kernel) annq26_ok decAq26_ok fnq26_ok fnq26_nat rendq26_ok
--@ layout_of
noncomputable def envq31 : Env := [(68,.pure Fq26)]
theorem envq31Ok : EnvOk Tryz.prog envq31 := EnvOk.cons Fq26_ok (EnvOk.nil)
noncomputable def bq31 : Code := Tryz.f117.body.getD .skip
noncomputable def annq31 : Ann := .none
theorem annq31_ok : AnnOk Tryz.prog 46 bq31 annq31 := (annOk_none _ _ _)
abbrev Aq31 := (Int) × (Int) × (Int)
abbrev Yq31 := (Int) × (Int) × (Int) × (Int) × (Int) × (Int)
def fnq31 {β : Type} : Aq31 → (Yq31 → Option β) → Option β := fun (a0_0,a0_1,a0_2) exit => (bindO (fnDq26 (a0_0,a0_1,a0_2)) fun r => (bif r != (0 : Int) then (exit ((0 : Int),(0 : Int),(0 : Int),(0 : Int),(0 : Int),(0 : Int))) else (exit ((1 : Int),(2 : Int),IntKind.wrap .i64 ((2 : Int) + IntKind.wrap .i64 (Int.tdiv (IntKind.wrap .i64 (IntKind.wrap .i64 (a0_0 + (2 : Int)) - (1 : Int))) (2 : Int))),IntKind.wrap .i64 (IntKind.wrap .i64 ((2 : Int) + IntKind.wrap .i64 (Int.tdiv (IntKind.wrap .i64 (IntKind.wrap .i64 (a0_0 + (2 : Int)) - (1 : Int))) (2 : Int))) + IntKind.wrap .i64 (a0_0 * (2 : Int))),IntKind.wrap .i64 (IntKind.wrap .i64 (IntKind.wrap .i64 ((2 : Int) + IntKind.wrap .i64 (Int.tdiv (IntKind.wrap .i64 (IntKind.wrap .i64 (a0_0 + (2 : Int)) - (1 : Int))) (2 : Int))) + IntKind.wrap .i64 (a0_0 * (2 : Int))) + IntKind.wrap .i64 (a0_1 * (5 : Int))),IntKind.wrap .i64 (IntKind.wrap .i64 (IntKind.wrap .i64 (IntKind.wrap .i64 ((2 : Int) + IntKind.wrap .i64 (Int.tdiv (IntKind.wrap .i64 (IntKind.wrap .i64 (a0_0 + (2 : Int)) - (1 : Int))) (2 : Int))) + IntKind.wrap .i64 (a0_0 * (2 : Int))) + IntKind.wrap .i64 (a0_1 * (5 : Int))) + a0_2)))))
def fnDq31 (a : Aq31) : Option Yq31 := fnq31 a some
theorem fnq31_nat (a : Aq31) (k : Yq31 → Ans) : fnq31 a k = bindO (fnDq31 a) k := by
  obtain ⟨a0_0,a0_1,a0_2⟩ := a
  simp only [fnDq31,fnq31,bindO_cond,bindO_assoc,bindO_none,bindO_pure,bindO_elim,bindO_unP,bindO_empty]
def argsq31 : Aq31 → List AV := fun (a0_0,a0_1,a0_2) => [.agg [.int .i64 a0_0,.int .i64 a0_1,.int .i64 a0_2]]
def decPAq31 (l : List AV) : Option {a : Aq31 // l = argsq31 a} := match l with
  | [.agg [.int .i64 a0_0,.int .i64 a0_1,.int .i64 a0_2]] => some ⟨(a0_0,a0_1,a0_2),rfl⟩
  | _ => none
def decAq31 (l : List AV) : Option Aq31 := pk (decPAq31 l)
theorem decAq31_ok (l : List AV) (a : Aq31) (h : decAq31 l = some a) : l = argsq31 a := pk_ok (o := decPAq31 l) h
def rendq31 : Aq31 → Yq31 → AV := fun (a0_0,a0_1,a0_2) => unP fun r_1_y => unP fun r_2_y => unP fun r_3_y => unP fun r_4_y => unP fun r_5_y r_6_y => .agg [.int .i64 (0),.int .i64 r_1_y,.int .i64 r_2_y,.int .i64 r_3_y,.int .i64 r_4_y,.int .i64 r_5_y,.int .i64 r_6_y]
theorem rendq31_ok : ∀ (a : Aq31) (y : Yq31),(rendq31 a y).closed1 = true := by
  rintro ⟨a0_0,a0_1,a0_2⟩ y <;> first | rfl | exact Empty.elim y
theorem fnq31_ok (a : Aq31) : fnE Tryz.tab envq31 noHint 0 70 117 Tryz.f117.ntmps Tryz.f117.results.toList annq31 bq31 (argsq31 a) [] (fun v _ => some (v,[])) = fnq31 a (fun y => some (rendq31 a y,[])) := by kernel_rfl
def vFq31 (a : Aq31) (K : AV → Ans) : Ans := bindO (fnDq31 a) fun y => K (rendq31 a y)
def Fq31 : List AV → (AV → Ans) → Ans := fun l K => bindO (decAq31 l) fun a => vFq31 a K
theorem Fq31_ok : PureOk Tryz.prog 117 Fq31 := pure_mkD (hint := noHint) (d := 0) (n := 70) mixed tabOk envq31Ok Tryz.func117 (bodySome (by kernel_rfl)) (by decide +kernel) annq31_ok decAq31_ok fnq31_ok fnq31_nat rendq31_ok
--@ layout_Sectors
noncomputable def envq29 : Env := [(117,.pure Fq31)]
theorem envq29Ok : EnvOk Tryz.prog envq29 := EnvOk.cons Fq31_ok (EnvOk.nil)
noncomputable def bq29 : Code := Tryz.f116.body.getD .skip
noncomputable def annq29 : Ann := .none
theorem annq29_ok : AnnOk Tryz.prog 6 bq29 annq29 := (annOk_none _ _ _)
abbrev Aq29 := (Int) × (Int) × (Int)
abbrev Yq29 := (Int)
def fnq29 {β : Type} : Aq29 → (Yq29 → Option β) → Option β := fun (a0_0,a0_1,a0_2) exit => (bindO (fnDq31 (a0_0,a0_1,a0_2)) (unP fun r_1 => unP fun r_2 => unP fun r_3 => unP fun r_4 => unP fun r_5 r_6 => (exit (r_6))))
def fnDq29 (a : Aq29) : Option Yq29 := fnq29 a some
theorem fnq29_nat (a : Aq29) (k : Yq29 → Ans) : fnq29 a k = bindO (fnDq29 a) k := by
  obtain ⟨a0_0,a0_1,a0_2⟩ := a
  simp only [fnDq29,fnq29,bindO_cond,bindO_assoc,bindO_none,bindO_pure,bindO_elim,bindO_unP,bindO_empty]
def argsq29 : Aq29 → List AV := fun (a0_0,a0_1,a0_2) => [.agg [.int .i64 a0_0,.int .i64 a0_1,.int .i64 a0_2]]
def decPAq29 (l : List AV) : Option {a : Aq29 // l = argsq29 a} := match l with
  | [.agg [.int .i64 a0_0,.int .i64 a0_1,.int .i64 a0_2]] => some ⟨(a0_0,a0_1,a0_2),rfl⟩
  | _ => none
def decAq29 (l : List AV) : Option Aq29 := pk (decPAq29 l)
theorem decAq29_ok (l : List AV) (a : Aq29) (h : decAq29 l = some a) : l = argsq29 a := pk_ok (o := decPAq29 l) h
def rendq29 : Aq29 → Yq29 → AV := fun (a0_0,a0_1,a0_2) => fun r_y => .int .i64 r_y
theorem rendq29_ok : ∀ (a : Aq29) (y : Yq29),(rendq29 a y).closed1 = true := by
  rintro ⟨a0_0,a0_1,a0_2⟩ y <;> first | rfl | exact Empty.elim y
theorem fnq29_ok (a : Aq29) : fnE Tryz.tab envq29 noHint 0 70 116 Tryz.f116.ntmps Tryz.f116.results.toList annq29 bq29 (argsq29 a) [] (fun v _ => some (v,[])) = fnq29 a (fun y => some (rendq29 a y,[])) := by kernel_rfl
def vFq29 (a : Aq29) (K : AV → Ans) : Ans := bindO (fnDq29 a) fun y => K (rendq29 a y)
def Fq29 : List AV → (AV → Ans) → Ans := fun l K => bindO (decAq29 l) fun a => vFq29 a K
theorem Fq29_ok : PureOk Tryz.prog 116 Fq29 := pure_mkD (hint := noHint) (d := 0) (n := 70) mixed tabOk envq29Ok Tryz.func116 (bodySome (by kernel_rfl)) (by decide +kernel) annq29_ok decAq29_ok fnq29_ok fnq29_nat rendq29_ok
--@ math_bits_Mul64
noncomputable def envq45 : Env := []
theorem envq45Ok : EnvOk Tryz.prog envq45 := EnvOk.nil
noncomputable def bq45 : Code := Tryz.f213.body.getD .skip
noncomputable def annq45 : Ann := .none
theorem annq45_ok : AnnOk Tryz.prog 51 bq45 annq45 := (annOk_none _ _ _)
abbrev Aq45 := (Int) × (Int)
abbrev Yq45 := (Int) × (Int)
def fnq45 {β : Type} : Aq45 → (Yq45 → Option β) → Option β := fun (a0,a1) exit => (exit (IntKind.wrap .u64 (IntKind.wrap .u64 (IntKind.wrap .u64 (Int.fdiv a0 (4294967296 : Int) * Int.fdiv a1 (4294967296 : Int)) + Int.fdiv (IntKind.wrap .u64 (IntKind.wrap .u64 (Int.fdiv a0 (4294967296 : Int) * IntKind.wrap .u64 (↑(Int.toNat (a1 % (18446744073709551616 : Int)) &&& (4294967295 : Nat)) : Int)) + Int.fdiv (IntKind.wrap .u64 (IntKind.wrap .u64 (↑(Int.toNat (a0 % (18446744073709551616 : Int)) &&& (4294967295 : Nat)) : Int) * IntKind.wrap .u64 (↑(Int.toNat (a1 % (18446744073709551616 : Int)) &&& (4294967295 : Nat)) : Int))) (4294967296 : Int))) (4294967296 : Int)) + Int.fdiv (IntKind.wrap .u64 (IntKind.wrap .u64 (↑(Int.toNat (IntKind.wrap .u64 (IntKind.wrap .u64 (Int.fdiv a0 (4294967296 : Int) * IntKind.wrap .u64 (↑(Int.toNat (a1 % (18446744073709551616 : Int)) &&& (4294967295 : Nat)) : Int)) + Int.fdiv (IntKind.wrap .u64 (IntKind.wrap .u64 (↑(Int.toNat (a0 % (18446744073709551616 : Int)) &&& (4294967295 : Nat)) : Int) * IntKind.wrap .u64 (↑(Int.toNat (a1 % (18446744073709551616 : Int)) &&& (4294967295 : Nat)) : Int))) (4294967296 : Int)) % (18446744073709551616 : Int)) &&& (4294967295 : Nat)) : Int) + IntKind.wrap .u64 (IntKind.wrap .u64 (↑(Int.toNat (a0 % (18446744073709551616 : Int)) &&& (4294967295 : Nat)) : Int) * Int.fdiv a1 (4294967296 : Int)))) (4294967296 : Int)),IntKind.wrap .u64 (a0 * a1)))
def fnDq45 (a : Aq45) : Option Yq45 := fnq45 a some
theorem fnq45_nat (a : Aq45) (k : Yq45 → Ans) : fnq45 a k = bindO (fnDq45 a) k := by
  obtain ⟨a0,a1⟩ := a
  simp only [fnDq45,fnq45,bindO_cond,bindO_assoc,bindO_none,bindO_pure,bindO_elim,bindO_unP,bindO_empty]
def argsq45 : Aq45 → List AV := fun (a0,a1) => [.int .u64 a0,.int .u64 a1]
def decPAq45 (l : List AV) : Option {a : Aq45 // l = argsq45 a} := match l with
  | [.int .u64 a0,.int .u64 a1] => some ⟨(a0,a1),rfl⟩
  | _ => none
def decAq45 (l : List AV) : Option Aq45 := pk (decPAq45 l)
theorem decAq45_ok (l : List AV) (a : Aq45) (h : decAq45 l = some a) : l = argsq45 a := pk_ok (o := decPAq45 l) h
def rendq45 : Aq45 → Yq45 → AV := fun (a0,a1) => unP fun r_0_y r_1_y => .tup [.int .u64 r_0_y,.int .u64 r_1_y]
theorem rendq45_ok : ∀ (a : Aq45) (y : Yq45),(rendq45 a y).closed1 = true := by
  rintro ⟨a0,a1⟩ y <;> first | rfl | exact Empty.elim y
theorem fnq45_ok (a : Aq45) : fnE Tryz.tab envq45 noHint 0 70 213 Tryz.f213.ntmps Tryz.f213.results.toList annq45 bq45 (argsq45 a) [] (fun v _ => some (v,[])) = fnq45 a (fun y => some (rendq45 a y,[])) := by kernel_rfl
def vFq45 (a : Aq45) (K : AV → Ans) : Ans := bindO (fnDq45 a) fun y => K (rendq45 a y)
def Fq45 : List AV → (AV → Ans) → Ans := fun l K => bindO (decAq45 l) fun a => vFq45 a K
theorem Fq45_ok : PureOk Tryz.prog 213 Fq45 := pure_mkD (hint := noHint) (d := 0) (n := 70) mixed tabOk envq45Ok Tryz.func213 (bodySome (by kernel_rfl)) (by decide +kernel) annq45_ok decAq45_ok fnq45_ok fnq45_nat rendq45_ok
--@ math_bits_Mul
noncomputable def envq44 : Env := [(213,.pure Fq45)]
theorem envq44Ok : EnvOk Tryz.prog envq44 := EnvOk.cons Fq45_ok (EnvOk.nil)
noncomputable def bq44 : Code := Tryz.f173.body.getD .skip
noncomputable def annq44 : Ann := .none
theorem annq44_ok : AnnOk Tryz.prog 30 bq44 annq44 := (annOk_none _ _ _)
abbrev Aq44 := (Int) × (Int)
abbrev Yq44 := (Int) × (Int)
def fnq44 {β : Type} : Aq44 → (Yq44 → Option β) → Option β := fun (a0,a1) exit => (bindO (fnDq45 (a0,a1)) (unP fun r_0 r_1 => (exit (r_0,r_1))))
def fnDq44 (a : Aq44) : Option Yq44 := fnq44 a some
theorem fnq44_nat (a : Aq44) (k : Yq44 → Ans) : fnq44 a k = bindO (fnDq44 a) k := by
  obtain ⟨a0,a1⟩ := a
  simp only [fnDq44,fnq44,bindO_cond,bindO_assoc,bindO_none,bindO_pure,bindO_elim,bindO_unP,bindO_empty]
def argsq44 : Aq44 → List AV := fun (a0,a1) => [.int .u64 a0,.int .u64 a1]
def decPAq44 (l : List AV) : Option {a : Aq44 // l = argsq44 a} := match l with
  | [.int .u64 a0,.int .u64 a1] => some ⟨(a0,a1),rfl⟩
  | _ => none
def decAq44 (l : List AV) : Option Aq44 := pk (decPAq44 l)
theorem decAq44_ok (l : List AV) (a : Aq44) (h : decAq44 l = some a) : l = argsq44 a := pk_ok (o := decPAq44 l) h
def rendq44 : Aq44 → Yq44 → AV := fun (a0,a1) => unP fun r_0_y r_1_y => .tup [.int .u64 r_0_y,.int .u64 r_1_y]
theorem rendq44_ok : ∀ (a : Aq44) (y : Yq44),(rendq44 a y).closed1 = true := by
  rintro ⟨a0,a1⟩ y <;> first | rfl | exact Empty.elim y
theorem fnq44_ok (a : Aq44) : fnE Tryz.tab envq44 noHint 0 70 173 Tryz.f173.ntmps Tryz.f173.results.toList annq44 bq44 (argsq44 a) [] (fun v _ => some (v,[])) = fnq44 a (fun y => some (rendq44 a y,[])) := by kernel_rfl
def vFq44 (a : Aq44) (K : AV → Ans) : Ans := bindO (fnDq44 a) fun y => K (rendq44 a y)
def Fq44 : List AV → (AV → Ans) → Ans := fun l K => bindO (decAq44 l) fun a => vFq44 a K
theorem Fq44_ok : PureOk Tryz.prog 173 Fq44 := pure_mkD (hint := noHint) (d := 0) (n := 70) mixed tabOk envq44Ok Tryz.func173 (bodySome (by kernel_rfl)) (by decide +kernel) annq44_ok decAq44_ok fnq44_ok fnq44_nat rendq44_ok
--@ slices_Repeat_string_string
noncomputable def envq78 : Env := [(173,.pure Fq44)]
theorem envq78Ok : EnvOk Tryz.prog envq78 := EnvOk.cons Fq44_ok (EnvOk.nil)
noncomputable def bq78 : Code := Tryz.f108.body.getD .skip
noncomputable def Lq78_n3 : Code := codeAt [1,1,1,1,1,1,0,0,0] bq78
noncomputable def annLq78_n3 : Ann := .at 0 [7,8] (.loop .none)
theorem annLq78_n3_ok : AnnOk Tryz.prog 48 (.loop Lq78_n3) annLq78_n3 := annOk_at (annOk_none _ _ _)
abbrev Iq78_n3 := Unit
abbrev Yq78_n3 := (List (List UInt8))
abbrev Vq78_n3 := (Int) × (List (List UInt8))
def Sq78_n3 : Iq78_n3 → Vq78_n3 → St := fun _ (t8,o0) => { env := [(7,.own 0),(8,.int .i64 t8)],stk := [[]],H := [.arr .str o0],blk := 442368 }
def decPq78_n3 (s : St) : Option {x : Iq78_n3 × Vq78_n3 // s = Sq78_n3 x.1 x.2} := match s with
  | { env := [(7,.own 0),(8,.int .i64 t8)],stk := [[]],H := [.arr .str o0],blk := 442368 } => some ⟨((),(t8,o0)),rfl⟩
  | _ => none
def decq78_n3 (s : St) : Option (Iq78_n3 × Vq78_n3) := pk (decPq78_n3 s)
theorem decq78_n3_ok (s : St) (x : Iq78_n3 × Vq78_n3) (h : decq78_n3 s = some x) : s = Sq78_n3 x.1 x.2 := pk_ok (o := decPq78_n3 s) h
def outq78_n3 : Iq78_n3 → (Ex → St → Ans) → Yq78_n3 → Ans := fun _ K => fun o0_y => K (Ex.exit 0) { env := [(7,.own 0)],stk := [[]],H := [.arr .str o0_y],blk := 442368 }
def stepq78_n3 {β : Type} : Iq78_n3 → Vq78_n3 → (Vq78_n3 → Option β) → (Yq78_n3 → Option β) → Option β := fun _ (t8,o0) next exit => (bif decide (t8 < (↑(List.length o0) : Int)) then (bif inR t8 (List.length o0 + (1 : Nat)) then (bif inR t8 (List.length o0 + (1 : Nat)) then (bif Nat.ble ((0 : Nat) + (Int.toNat t8 - (0 : Nat))) (List.length o0) then (bif Nat.ble (Int.toNat t8 + (List.length o0 - Int.toNat t8)) (List.length o0) then (next (IntKind.wrap .i64 (t8 + (↑(Nat.min (List.length (List.take (Int.toNat t8 - (0 : Nat)) (List.drop (0 : Nat) o0))) (List.length o0 - Int.toNat t8)) : Int)),List.take (Int.toNat t8) o0 ++ (List.take (List.length o0 - Int.toNat t8) (List.take (Int.toNat t8 - (0 : Nat)) (List.drop (0 : Nat) o0)) ++ List.drop (Int.toNat t8 + Nat.min (List.length (List.take (Int.toNat t8 - (0 : Nat)) (List.drop (0 : Nat) o0))) (List.length o0 - Int.toNat t8)) o0))) else none) else none) else none) else none) else (exit (o0)))
def stepDq78_n3 (i : Iq78_n3) (v : Vq78_n3) : Option (Vq78_n3 ⊕ Yq78_n3) := stepq78_n3 i v (fun v => some (.inl v)) (fun y => some (.inr y))
theorem stepq78_n3_nat (i : Iq78_n3) (v : Vq78_n3) (next : Vq78_n3 → Ans) (exit : Yq78_n3 → Ans) : stepq78_n3 i v next exit = bindO (stepDq78_n3 i v) (Sum.elim next exit) := by
  obtain z := i
  obtain ⟨t8,o0⟩ := v
  simp only [stepDq78_n3,stepq78_n3,bindO_cond,bindO_assoc,bindO_none,bindO_pure,bindO_elim,bindO_unP,bindO_empty,Sum.elim_inl,Sum.elim_inr]
theorem stepq78_n3_ok (n : Nat) (i : Iq78_n3) (v : Vq78_n3) (K : Ex → St → Ans) : codeI Tryz.tab envq78 noHint (codeD Tryz.tab envq78 noHint 0 64) (n+1) 48 annLq78_n3 (.loop Lq78_n3) (weakP 0 (exk [7] [4] [(0,[7])]) K) (Sq78_n3 i v) = stepq78_n3 i v (fun v' => codeI Tryz.tab envq78 noHint (codeD Tryz.tab envq78 noHint 0 64) n 48 annLq78_n3 (.loop Lq78_n3) (weakP 0 (exk [7] [4] [(0,[7])]) K) (Sq78_n3 i v')) (fun y => outq78_n3 i K y) := by kernel_rfl
theorem GNq78_n3_ok : CSum Tryz.prog 48 (.loop Lq78_n3) (sumL decq78_n3 stepDq78_n3 outq78_n3) := csum_loop mixed tabOk envq78Ok 0 (exk [7] [4] [(0,[7])]) annLq78_n3_ok decq78_n3_ok stepq78_n3_ok stepq78_n3_nat
noncomputable def Gq78_n3 : (Ex → St → Ans) → St → Ans := (sumL decq78_n3 stepDq78_n3 outq78_n3)
theorem Gq78_n3_ok : CSum Tryz.prog 48 (.loop Lq78_n3) Gq78_n3 := GNq78_n3_ok
noncomputable def Lq78_n2 : Code := codeAt [1,1,1,0,1] bq78
noncomputable def annLq78_n2 : Ann := .none
theorem annLq78_n2_ok : AnnOk Tryz.prog 48 Lq78_n2 annLq78_n2 := (annOk_none _ _ _)
abbrev Iq78_n2 := (List (List UInt8)) × (Int) × (Bool)
abbrev Yq78_n2 := Unit
def Sq78_n2 : Iq78_n2 → St := fun (t0,t6,t26) => { env := [(0,.ro .str t0),(6,.int .u64 t6),(26,.bool t26)],stk := [[]],H := [],blk := 442368 }
def decPq78_n2 (s : St) : Option {x : Iq78_n2 // s = Sq78_n2 x} := match s with
  | { env := [(0,.ro .str t0),(6,.int .u64 t6),(26,.bool t26)],stk := [[]],H := [],blk := 442368 } => some ⟨(t0,t6,t26),rfl⟩
  | _ => none
def decq78_n2 (s : St) : Option Iq78_n2 := pk (decPq78_n2 s)
theorem decq78_n2_ok (s : St) (x : Iq78_n2) (h : decq78_n2 s = some x) : s = Sq78_n2 x := pk_ok (o := decPq78_n2 s) h
def outq78_n2 : Iq78_n2 → (Ex → St → Ans) → Yq78_n2 → Ans := fun (t0,t6,t26) K => fun _ => K (Ex.norm) { env := [(0,.ro .str t0),(6,.int .u64 t6)],stk := [[]],H := [],blk := 442368 }
def nodeq78_n2 {β : Type} : Iq78_n2 → (Yq78_n2 → Option β) → Option β := fun (t0,t6,t26) exit => (bif t26 then none else (exit ()))
def nodeDq78_n2 (i : Iq78_n2) : Option Yq78_n2 := nodeq78_n2 i some
theorem nodeq78_n2_nat (i : Iq78_n2) (k : Yq78_n2 → Ans) : nodeq78_n2 i k = bindO (nodeDq78_n2 i) k := by
  obtain ⟨t0,t6,t26⟩ := i
  simp only [nodeDq78_n2,nodeq78_n2,bindO_cond,bindO_assoc,bindO_none,bindO_pure,bindO_elim,bindO_unP,bindO_empty]
theorem nodeq78_n2_ok (i : Iq78_n2) (K : Ex → St → Ans) : codeI Tryz.tab envq78 noHint (codeD Tryz.tab envq78 noHint 0 64) 70 48 annLq78_n2 Lq78_n2 (weakP 0 (exk [0,6] [4] []) K) (Sq78_n2 i) = nodeq78_n2 i (outq78_n2 i K) := by kernel_rfl
theorem GNq78_n2_ok : CSum Tryz.prog 48 Lq78_n2 (sumN decq78_n2 nodeDq78_n2 outq78_n2) := csum_node mixed tabOk envq78Ok 0 (exk [0,6] [4] []) annLq78_n2_ok decq78_n2_ok nodeq78_n2_ok nodeq78_n2_nat
noncomputable def Gq78_n2 : (Ex → St → Ans) → St → Ans := (sumN decq78_n2 nodeDq78_n2 outq78_n2)
theorem Gq78_n2_ok : CSum Tryz.prog 48 Lq78_n2 Gq78_n2 := GNq78_n2_ok
noncomputable def Lq78_n1 : Code := codeAt [1,1,1,0,0] bq78
noncomputable def annLq78_n1 : Ann := .none
theorem annLq78_n1_ok : AnnOk Tryz.prog 48 Lq78_n1 annLq78_n1 := (annOk_none _ _ _)
abbrev Iq78_n1 := (List (List UInt8)) × (Int) × (Int)
abbrev Yq78_n1 := (Bool)
def Sq78_n1 : Iq78_n1 → St := fun (t0,t5,t6) => { env := [(0,.ro .str t0),(5,.int .u64 t5),(6,.int .u64 t6)],stk := [[]],H := [],blk := 442368 }
def decPq78_n1 (s : St) : Option {x : Iq78_n1 // s = Sq78_n1 x} := match s with
  | { env := [(0,.ro .str t0),(5,.int .u64 t5),(6,.int .u64 t6)],stk := [[]],H := [],blk := 442368 } => some ⟨(t0,t5,t6),rfl⟩
  | _ => none
def decq78_n1 (s : St) : Option Iq78_n1 := pk (decPq78_n1 s)
theorem decq78_n1_ok (s : St) (x : Iq78_n1) (h : decq78_n1 s = some x) : s = Sq78_n1 x := pk_ok (o := decPq78_n1 s) h
def outq78_n1 : Iq78_n1 → (Ex → St → Ans) → Yq78_n1 → Ans := fun (t0,t5,t6) K => fun t26_y => K (Ex.norm) { env := [(0,.ro .str t0),(6,.int .u64 t6),(26,.bool t26_y)],stk := [[]],H := [],blk := 442368 }
def nodeq78_n1 {β : Type} : Iq78_n1 → (Yq78_n1 → Option β) → Option β := fun (t0,t5,t6) exit => (bif decide (t5 > (0 : Int)) then (exit (true)) else (exit (decide (t6 > (9223372036854775807 : Int)))))
def nodeDq78_n1 (i : Iq78_n1) : Option Yq78_n1 := nodeq78_n1 i some
theorem nodeq78_n1_nat (i : Iq78_n1) (k : Yq78_n1 → Ans) : nodeq78_n1 i k = bindO (nodeDq78_n1 i) k := by
  obtain ⟨t0,t5,t6⟩ := i
  simp only [nodeDq78_n1,nodeq78_n1,bindO_cond,bindO_assoc,bindO_none,bindO_pure,bindO_elim,bindO_unP,bindO_empty]
theorem nodeq78_n1_ok (i : Iq78_n1) (K : Ex → St → Ans) : codeI Tryz.tab envq78 noHint (codeD Tryz.tab envq78 noHint 0 64) 70 48 annLq78_n1 Lq78_n1 (weakP 0 (exk [0,6,26] [4] []) K) (Sq78_n1 i) = nodeq78_n1 i (outq78_n1 i K) := by kernel_rfl
theorem GNq78_n1_ok : CSum Tryz.prog 48 Lq78_n1 (sumN decq78_n1 nodeDq78_n1 outq78_n1) := csum_node mixed tabOk envq78Ok 0 (exk [0,6,26] [4] []) annLq78_n1_ok decq78_n1_ok nodeq78_n1_ok nodeq78_n1_nat
noncomputable def Gq78_n1 : (Ex → St → Ans) → St → Ans := (sumN decq78_n1 nodeDq78_n1 outq78_n1)
theorem Gq78_n1_ok : CSum Tryz.prog 48 Lq78_n1 Gq78_n1 := GNq78_n1_ok
noncomputable def Lq78_n0 : Code := codeAt [1,0,1] bq78
noncomputable def annLq78_n0 : Ann := .none
theorem annLq78_n0_ok : AnnOk Tryz.prog 48 Lq78_n0 annLq78_n0 := (annOk_none _ _ _)
abbrev Iq78_n0 := (List (List UInt8)) × (Int) × (Bool)
abbrev Yq78_n0 := Unit
def Sq78_n0 : Iq78_n0 → St := fun (t0,t1,t10) => { env := [(0,.ro .str t0),(1,.int .i64 t1),(10,.bool t10)],stk := [[]],H := [],blk := 442368 }
def decPq78_n0 (s : St) : Option {x : Iq78_n0 // s = Sq78_n0 x} := match s with
  | { env := [(0,.ro .str t0),(1,.int .i64 t1),(10,.bool t10)],stk := [[]],H := [],blk := 442368 } => some ⟨(t0,t1,t10),rfl⟩
  | _ => none
def decq78_n0 (s : St) : Option Iq78_n0 := pk (decPq78_n0 s)
theorem decq78_n0_ok (s : St) (x : Iq78_n0) (h : decq78_n0 s = some x) : s = Sq78_n0 x := pk_ok (o := decPq78_n0 s) h
def outq78_n0 : Iq78_n0 → (Ex → St → Ans) → Yq78_n0 → Ans := fun (t0,t1,t10) K => fun _ => K (Ex.norm) { env := [(0,.ro .str t0),(1,.int .i64 t1)],stk := [[]],H := [],blk := 442368 }
def nodeq78_n0 {β : Type} : Iq78_n0 → (Yq78_n0 → Option β) → Option β := fun (t0,t1,t10) exit => (bif t10 then none else (exit ()))
def nodeDq78_n0 (i : Iq78_n0) : Option Yq78_n0 := nodeq78_n0 i some
theorem nodeq78_n0_nat (i : Iq78_n0) (k : Yq78_n0 → Ans) : nodeq78_n0 i k = bindO (nodeDq78_n0 i) k := by
  obtain ⟨t0,t1,t10⟩ := i
  simp only [nodeDq78_n0,nodeq78_n0,bindO_cond,bindO_assoc,bindO_none,bindO_pure,bindO_elim,bindO_unP,bindO_empty]
theorem nodeq78_n0_ok (i : Iq78_n0) (K : Ex → St → Ans) : codeI Tryz.tab envq78 noHint (codeD Tryz.tab envq78 noHint 0 64) 70 48 annLq78_n0 Lq78_n0 (weakP 0 (exk [0,1] [4] []) K) (Sq78_n0 i) = nodeq78_n0 i (outq78_n0 i K) := by kernel_rfl
theorem GNq78_n0_ok : CSum Tryz.prog 48 Lq78_n0 (sumN decq78_n0 nodeDq78_n0 outq78_n0) := csum_node mixed tabOk envq78Ok 0 (exk [0,1] [4] []) annLq78_n0_ok decq78_n0_ok nodeq78_n0_ok nodeq78_n0_nat
noncomputable def Gq78_n0 : (Ex → St → Ans) → St → Ans := (sumN decq78_n0 nodeDq78_n0 outq78_n0)
theorem Gq78_n0_ok : CSum Tryz.prog 48 Lq78_n0 Gq78_n0 := GNq78_n0_ok
noncomputable def annq78 : Ann := (.seq .none (.seq (.seq .none (.cut 0 [0,1,10] Gq78_n0)) (.seq .none (.seq (.seq (.cut 0 [0,5,6] Gq78_n1) (.cut 0 [0,6,26] Gq78_n2)) (.seq .none (.seq .none (.seq (.block (.cut 0 [7,8] Gq78_n3)) .none)))))))
theorem annq78_ok : AnnOk Tryz.prog 48 bq78 annq78 := ⟨(annOk_none _ _ _),⟨⟨(annOk_none _ _ _),Gq78_n0_ok⟩,⟨(annOk_none _ _ _),⟨⟨Gq78_n1_ok,Gq78_n2_ok⟩,⟨(annOk_none _ _ _),⟨(annOk_none _ _ _),⟨Gq78_n3_ok,(annOk_none _ _ _)⟩⟩⟩⟩⟩⟩⟩
abbrev Aq78 := (List (List UInt8)) × (Int)
abbrev Yq78 := (List (List UInt8))
def fnq78 {β : Type} : Aq78 → (Yq78 → Option β) → Option β := fun (a0,a1) exit => (bindO (nodeDq78_n0 (a0,a1,decide (a1 < (0 : Int)))) fun _ => (bindO (fnDq44 (IntKind.wrap .u64 (↑(List.length a0) : Int),IntKind.wrap .u64 a1)) (unP fun r_0 r_1 => (bindO (nodeDq78_n1 (a0,r_0,r_1)) fun t26 => (bindO (nodeDq78_n2 (a0,r_1,t26)) fun _ => (bif decide ((0 : Int) ≤ IntKind.wrap .i64 r_1) && decide (IntKind.wrap .i64 r_1 ≤ IntKind.wrap .i64 r_1) && decide ((16 : Int) * IntKind.wrap .i64 r_1 ≤ (281474976710656 : Int)) && decide (IntKind.wrap .i64 r_1 ≤ (9223372036854775807 : Int)) then (bindO (loopD (stepDq78_n3 ()) FUEL ((↑(Nat.min (List.length a0) (List.length (List.replicate (Int.toNat (IntKind.wrap .i64 r_1)) (nilL UInt8)))) : Int),List.take (List.length (List.replicate (Int.toNat (IntKind.wrap .i64 r_1)) (nilL UInt8))) a0 ++ List.drop (List.length a0) (List.replicate (Int.toNat (IntKind.wrap .i64 r_1)) (nilL UInt8)))) fun o0 => (exit (o0))) else none))))))
def fnDq78 (a : Aq78) : Option Yq78 := fnq78 a some
theorem fnq78_nat (a : Aq78) (k : Yq78 → Ans) : fnq78 a k = bindO (fnDq78 a) k := by
  obtain ⟨a0,a1⟩ := a
  simp only [fnDq78,fnq78,bindO_cond,bindO_assoc,bindO_none,bindO_pure,bindO_elim,bindO_unP,bindO_empty]
def argsq78 : Aq78 → List AV × List AE.Obj := fun (a0,a1) => ([.ro .str a0,.int .i64 a1],[])
def decPAq78 (l : List AV) (H : List AE.Obj) : Option {a : Aq78 // (l,H) = argsq78 a} := match l,H with
  | [.ro .str a0,.int .i64 a1],[] => some ⟨(a0,a1),rfl⟩
  | _,_ => none
def decAq78 (l : List AV) (H : List AE.Obj) : Option Aq78 := pk (decPAq78 l H)
theorem decAq78_ok (l : List AV) (H : List AE.Obj) (a : Aq78) (h : decAq78 l H = some a) : (l,H) = argsq78 a := pk_ok (o := decPAq78 l H) h
def outq78 : Aq78 → (AV → List AE.Obj → Ans) → Yq78 → Ans := fun (a0,a1) K => fun o0_y => K (.own 0) [.arr .str o0_y]
theorem fnq78_ok (a : Aq78) (K : AV → List AE.Obj → Ans) : fnE Tryz.tab envq78 noHint 0 70 108 Tryz.f108.ntmps Tryz.f108.results.toList annq78 bq78 (argsq78 a).1 (argsq78 a).2 K = fnq78 a (outq78 a K) := by kernel_rfl
def vFq78 (a : Aq78) (K : AV → List AE.Obj → Ans) : Ans := bindO (fnDq78 a) fun y => outq78 a K y
def Fq78 : List AV → List AE.Obj → (AV → List AE.Obj → Ans) → Ans := fun l H K => bindO (decAq78 l H) fun a => vFq78 a K
theorem Fq78_ok : FuncOk Tryz.prog 108 Fq78 := func_mkD (hint := noHint) (d := 0) (n := 70) mixed tabOk envq78Ok Tryz.func108 (bodySome (by kernel_rfl)) (by decide +kernel) annq78_ok decAq78_ok fnq78_ok fnq78_nat
--@ disk_New
noncomputable def envq13 : Env := [(109,.pure Fstrings_Repeat),(108,.func Fq78)]
theorem envq13Ok : EnvOk Tryz.prog envq13 := EnvOk.cons Fstrings_Repeat_ok (EnvOk.cons Fq78_ok (EnvOk.nil))
noncomputable def bq13 : Code := Tryz.f28.body.getD .skip
noncomputable def annq13 : Ann := .none
theorem annq13_ok : AnnOk Tryz.prog 14 bq13 annq13 := (annOk_none _ _ _)
abbrev Aq13 := (Int)
abbrev Yq13 := (List (List UInt8))
def fnq13 {β : Type} : Aq13 → (Yq13 → Option β) → Option β := fun a0 exit => (bindO (fnDstrings_Repeat ([(0 : UInt8)],(64 : Int))) fun r => (bindO (fnDq78 ([r],if (1000 : Int) < if (0 : Int) > a0 then (0 : Int) else a0 then (1000 : Int) else if (0 : Int) > a0 then (0 : Int) else a0)) fun o0 => (exit (o0))))
def fnDq13 (a : Aq13) : Option Yq13 := fnq13 a some
theorem fnq13_nat (a : Aq13) (k : Yq13 → Ans) : fnq13 a k = bindO (fnDq13 a) k := by
  obtain z := a
  simp only [fnDq13,fnq13,bindO_cond,bindO_assoc,bindO_none,bindO_pure,bindO_elim,bindO_unP,bindO_empty]
def argsq13 : Aq13 → List AV × List AE.Obj := fun a0 => ([.int .i64 a0],[])
def decPAq13 (l : List AV) (H : List AE.Obj) : Option {a : Aq13 // (l,H) = argsq13 a} := match l,H with
  | [.int .i64 a0],[] => some ⟨(a0),rfl⟩
  | _,_ => none
def decAq13 (l : List AV) (H : List AE.Obj) : Option Aq13 := pk (decPAq13 l H)
theorem decAq13_ok (l : List AV) (H : List AE.Obj) (a : Aq13) (h : decAq13 l H = some a) : (l,H) = argsq13 a := pk_ok (o := decPAq13 l H) h
def outq13 : Aq13 → (AV → List AE.Obj → Ans) → Yq13 → Ans := fun a0 K => fun o1_y => K (.ptr 0 0) [.cells [.own 1,.map 2,.own 3,.int .i64 (0),.own 4,.int .i64 (0),.bool (false)],.arr .str o1_y,.mp .i64 .str ([]),.arr (.st (.pair (.int .i64) .str)) ([]),.arr (.int .i64) ([])]
theorem fnq13_ok (a : Aq13) (K : AV → List AE.Obj → Ans) : fnE Tryz.tab envq13 noHint 0 70 28 Tryz.f28.ntmps Tryz.f28.results.toList annq13 bq13 (argsq13 a).1 (argsq13 a).2 K = fnq13 a (outq13 a K) := by kernel_rfl
def vFq13 (a : Aq13) (K : AV → List AE.Obj → Ans) : Ans := bindO (fnDq13 a) fun y => outq13 a K y
def Fq13 : List AV → List AE.Obj → (AV → List AE.Obj → Ans) → Ans := fun l H K => bindO (decAq13 l H) fun a => vFq13 a K
theorem Fq13_ok : FuncOk Tryz.prog 28 Fq13 := func_mkD (hint := noHint) (d := 0) (n := 70) mixed tabOk envq13Ok Tryz.func28 (bodySome (by kernel_rfl)) (by decide +kernel) annq13_ok decAq13_ok fnq13_ok fnq13_nat
--@ layout_Log
noncomputable def envq28 : Env := [(117,.pure Fq31)]
theorem envq28Ok : EnvOk Tryz.prog envq28 := EnvOk.cons Fq31_ok (EnvOk.nil)
noncomputable def bq28 : Code := Tryz.f37.body.getD .skip
noncomputable def annq28 : Ann := .none
theorem annq28_ok : AnnOk Tryz.prog 6 bq28 annq28 := (annOk_none _ _ _)
abbrev Aq28 := (Int) × (Int) × (Int)
abbrev Yq28 := (Int)
def fnq28 {β : Type} : Aq28 → (Yq28 → Option β) → Option β := fun (a0_0,a0_1,a0_2) exit => (bindO (fnDq31 (a0_0,a0_1,a0_2)) (unP fun r_1 => unP fun r_2 => unP fun r_3 => unP fun r_4 => unP fun r_5 r_6 => (exit (r_5))))
def fnDq28 (a : Aq28) : Option Yq28 := fnq28 a some
theorem fnq28_nat (a : Aq28) (k : Yq28 → Ans) : fnq28 a k = bindO (fnDq28 a) k := by
  obtain ⟨a0_0,a0_1,a0_2⟩ := a
  simp only [fnDq28,fnq28,bindO_cond,bindO_assoc,bindO_none,bindO_pure,bindO_elim,bindO_unP,bindO_empty]
def argsq28 : Aq28 → List AV := fun (a0_0,a0_1,a0_2) => [.agg [.int .i64 a0_0,.int .i64 a0_1,.int .i64 a0_2]]
def decPAq28 (l : List AV) : Option {a : Aq28 // l = argsq28 a} := match l with
  | [.agg [.int .i64 a0_0,.int .i64 a0_1,.int .i64 a0_2]] => some ⟨(a0_0,a0_1,a0_2),rfl⟩
  | _ => none
def decAq28 (l : List AV) : Option Aq28 := pk (decPAq28 l)
theorem decAq28_ok (l : List AV) (a : Aq28) (h : decAq28 l = some a) : l = argsq28 a := pk_ok (o := decPAq28 l) h
def rendq28 : Aq28 → Yq28 → AV := fun (a0_0,a0_1,a0_2) => fun r_y => .int .i64 r_y
theorem rendq28_ok : ∀ (a : Aq28) (y : Yq28),(rendq28 a y).closed1 = true := by
  rintro ⟨a0_0,a0_1,a0_2⟩ y <;> first | rfl | exact Empty.elim y
theorem fnq28_ok (a : Aq28) : fnE Tryz.tab envq28 noHint 0 70 37 Tryz.f37.ntmps Tryz.f37.results.toList annq28 bq28 (argsq28 a) [] (fun v _ => some (v,[])) = fnq28 a (fun y => some (rendq28 a y,[])) := by kernel_rfl
def vFq28 (a : Aq28) (K : AV → Ans) : Ans := bindO (fnDq28 a) fun y => K (rendq28 a y)
def Fq28 : List AV → (AV → Ans) → Ans := fun l K => bindO (decAq28 l) fun a => vFq28 a K
theorem Fq28_ok : PureOk Tryz.prog 37 Fq28 := pure_mkD (hint := noHint) (d := 0) (n := 70) mixed tabOk envq28Ok Tryz.func37 (bodySome (by kernel_rfl)) (by decide +kernel) annq28_ok decAq28_ok fnq28_ok fnq28_nat rendq28_ok
--@ disk_Disk_Sectors
noncomputable def envq8 : Env := []
theorem envq8Ok : EnvOk Tryz.prog envq8 := EnvOk.nil
noncomputable def bq8 : Code := Tryz.f161.body.getD .skip
noncomputable def annq8 : Ann := .none
theorem annq8_ok : AnnOk Tryz.prog 10 bq8 annq8 := (annOk_none _ _ _)
abbrev Aq8 := (Int) × (Int) × (Bool) × (List (List UInt8)) × (List (Int × List UInt8)) × (List (Int × List UInt8)) × (List Int)
abbrev Yq8 := (Int)
def fnq8 {β : Type} : Aq8 → (Yq8 → Option β) → Option β := fun (o0_3,o0_5,o0_6,o1,o2,o3,o4) exit => (exit ((↑(List.length o1) : Int)))
def fnDq8 (a : Aq8) : Option Yq8 := fnq8 a some
theorem fnq8_nat (a : Aq8) (k : Yq8 → Ans) : fnq8 a k = bindO (fnDq8 a) k := by
  obtain ⟨o0_3,o0_5,o0_6,o1,o2,o3,o4⟩ := a
  simp only [fnDq8,fnq8,bindO_cond,bindO_assoc,bindO_none,bindO_pure,bindO_elim,bindO_unP,bindO_empty]
def argsq8 : Aq8 → List AV × List AE.Obj := fun (o0_3,o0_5,o0_6,o1,o2,o3,o4) => ([.ptr 0 0],[.cells [.own 1,.map 2,.own 3,.int .i64 o0_3,.own 4,.int .i64 o0_5,.bool o0_6],.arr .str o1,.mp .i64 .str o2,.arr (.st (.pair (.int .i64) .str)) o3,.arr (.int .i64) o4])
def decPAq8 (l : List AV) (H : List AE.Obj) : Option {a : Aq8 // (l,H) = argsq8 a} := match l,H with
  | [.ptr 0 0],[.cells [.own 1,.map 2,.own 3,.int .i64 o0_3,.own 4,.int .i64 o0_5,.bool o0_6],.arr .str o1,.mp .i64 .str o2,.arr (.st (.pair (.int .i64) .str)) o3,.arr (.int .i64) o4] => some ⟨(o0_3,o0_5,o0_6,o1,o2,o3,o4),rfl⟩
  | _,_ => none
def decAq8 (l : List AV) (H : List AE.Obj) : Option Aq8 := pk (decPAq8 l H)
theorem decAq8_ok (l : List AV) (H : List AE.Obj) (a : Aq8) (h : decAq8 l H = some a) : (l,H) = argsq8 a := pk_ok (o := decPAq8 l H) h
def outq8 : Aq8 → (AV → List AE.Obj → Ans) → Yq8 → Ans := fun (o0_3,o0_5,o0_6,o1,o2,o3,o4) K => fun r_y => K (.int .i64 r_y) [.cells [.own 1,.map 2,.own 3,.int .i64 o0_3,.own 4,.int .i64 o0_5,.bool o0_6],.arr .str o1,.mp .i64 .str o2,.arr (.st (.pair (.int .i64) .str)) o3,.arr (.int .i64) o4]
theorem fnq8_ok (a : Aq8) (K : AV → List AE.Obj → Ans) : fnE Tryz.tab envq8 noHint 0 70 161 Tryz.f161.ntmps Tryz.f161.results.toList annq8 bq8 (argsq8 a).1 (argsq8 a).2 K = fnq8 a (outq8 a K) := by kernel_rfl
def vFq8 (a : Aq8) (K : AV → List AE.Obj → Ans) : Ans := bindO (fnDq8 a) fun y => outq8 a K y
def Fq8 : List AV → List AE.Obj → (AV → List AE.Obj → Ans) → Ans := fun l H K => bindO (decAq8 l H) fun a => vFq8 a K
theorem Fq8_ok : FuncOk Tryz.prog 161 Fq8 := func_mkD (hint := noHint) (d := 0) (n := 70) mixed tabOk envq8Ok Tryz.func161 (bodySome (by kernel_rfl)) (by decide +kernel) annq8_ok decAq8_ok fnq8_ok fnq8_nat
--@ region_inside
noncomputable def envq62 : Env := []
theorem envq62Ok : EnvOk Tryz.prog envq62 := EnvOk.nil
noncomputable def bq62 : Code := Tryz.f210.body.getD .skip
noncomputable def Lq62_n0 : Code := codeAt [1,0] bq62
noncomputable def annLq62_n0 : Ann := .none
theorem annLq62_n0_ok : AnnOk Tryz.prog 25 Lq62_n0 annLq62_n0 := (annOk_none _ _ _)
abbrev Iq62_n0 := (Int) × (Int) × (Int)
abbrev Yq62_n0 := (Bool)
def Sq62_n0 : Iq62_n0 → St := fun (t0,t1,t2) => { env := [(0,.int .i64 t0),(1,.int .i64 t1),(2,.int .i64 t2)],stk := [[]],H := [],blk := 860160 }
def decPq62_n0 (s : St) : Option {x : Iq62_n0 // s = Sq62_n0 x} := match s with
  | { env := [(0,.int .i64 t0),(1,.int .i64 t1),(2,.int .i64 t2)],stk := [[]],H := [],blk := 860160 } => some ⟨(t0,t1,t2),rfl⟩
  | _ => none
def decq62_n0 (s : St) : Option Iq62_n0 := pk (decPq62_n0 s)
theorem decq62_n0_ok (s : St) (x : Iq62_n0) (h : decq62_n0 s = some x) : s = Sq62_n0 x := pk_ok (o := decPq62_n0 s) h
def outq62_n0 : Iq62_n0 → (Ex → St → Ans) → Yq62_n0 → Ans := fun (t0,t1,t2) K => fun t6_y => K (Ex.norm) { env := [(6,.bool t6_y)],stk := [[]],H := [],blk := 860160 }
def nodeq62_n0 {β : Type} : Iq62_n0 → (Yq62_n0 → Option β) → Option β := fun (t0,t1,t2) exit => (bif decide (t0 ≥ (0 : Int)) then (bif decide (t1 ≥ (0 : Int)) then (bif decide (t0 ≤ t2) then (exit (decide (t1 ≤ IntKind.wrap .i64 (t2 - t0)))) else (exit (false))) else (exit (false))) else (exit (false)))
def nodeDq62_n0 (i : Iq62_n0) : Option Yq62_n0 := nodeq62_n0 i some
theorem nodeq62_n0_nat (i : Iq62_n0) (k : Yq62_n0 → Ans) : nodeq62_n0 i k = bindO (nodeDq62_n0 i) k := by
  obtain ⟨t0,t1,t2⟩ := i
  simp only [nodeDq62_n0,nodeq62_n0,bindO_cond,bindO_assoc,bindO_none,bindO_pure,bindO_elim,bindO_unP,bindO_empty]
theorem nodeq62_n0_ok (i : Iq62_n0) (K : Ex → St → Ans) : codeI Tryz.tab envq62 noHint (codeD Tryz.tab envq62 noHint 0 64) 70 25 annLq62_n0 Lq62_n0 (weakP 0 (exk [6] [6] []) K) (Sq62_n0 i) = nodeq62_n0 i (outq62_n0 i K) := by kernel_rfl
theorem GNq62_n0_ok : CSum Tryz.prog 25 Lq62_n0 (sumN decq62_n0 nodeDq62_n0 outq62_n0) := csum_node mixed tabOk envq62Ok 0 (exk [6] [6] []) annLq62_n0_ok decq62_n0_ok nodeq62_n0_ok nodeq62_n0_nat
noncomputable def Gq62_n0 : (Ex → St → Ans) → St → Ans := (sumN decq62_n0 nodeDq62_n0 outq62_n0)
theorem Gq62_n0_ok : CSum Tryz.prog 25 Lq62_n0 Gq62_n0 := GNq62_n0_ok
noncomputable def annq62 : Ann := (.seq .none (.seq (.cut 0 [0,1,2] Gq62_n0) .none))
theorem annq62_ok : AnnOk Tryz.prog 25 bq62 annq62 := ⟨(annOk_none _ _ _),⟨Gq62_n0_ok,(annOk_none _ _ _)⟩⟩
abbrev Aq62 := (Int) × (Int) × (Int)
abbrev Yq62 := (Bool)
def fnq62 {β : Type} : Aq62 → (Yq62 → Option β) → Option β := fun (a0,a1,a2) exit => (bindO (nodeDq62_n0 (a0,a1,a2)) fun t6 => (exit (t6)))
def fnDq62 (a : Aq62) : Option Yq62 := fnq62 a some
theorem fnq62_nat (a : Aq62) (k : Yq62 → Ans) : fnq62 a k = bindO (fnDq62 a) k := by
  obtain ⟨a0,a1,a2⟩ := a
  simp only [fnDq62,fnq62,bindO_cond,bindO_assoc,bindO_none,bindO_pure,bindO_elim,bindO_unP,bindO_empty]
def argsq62 : Aq62 → List AV := fun (a0,a1,a2) => [.int .i64 a0,.int .i64 a1,.int .i64 a2]
def decPAq62 (l : List AV) : Option {a : Aq62 // l = argsq62 a} := match l with
  | [.int .i64 a0,.int .i64 a1,.int .i64 a2] => some ⟨(a0,a1,a2),rfl⟩
  | _ => none
def decAq62 (l : List AV) : Option Aq62 := pk (decPAq62 l)
theorem decAq62_ok (l : List AV) (a : Aq62) (h : decAq62 l = some a) : l = argsq62 a := pk_ok (o := decPAq62 l) h
def rendq62 : Aq62 → Yq62 → AV := fun (a0,a1,a2) => fun r_y => .bool r_y
theorem rendq62_ok : ∀ (a : Aq62) (y : Yq62),(rendq62 a y).closed1 = true := by
  rintro ⟨a0,a1,a2⟩ y <;> first | rfl | exact Empty.elim y
theorem fnq62_ok (a : Aq62) : fnE Tryz.tab envq62 noHint 0 70 210 Tryz.f210.ntmps Tryz.f210.results.toList annq62 bq62 (argsq62 a) [] (fun v _ => some (v,[])) = fnq62 a (fun y => some (rendq62 a y,[])) := by kernel_rfl
def vFq62 (a : Aq62) (K : AV → Ans) : Ans := bindO (fnDq62 a) fun y => K (rendq62 a y)
def Fq62 : List AV → (AV → Ans) → Ans := fun l K => bindO (decAq62 l) fun a => vFq62 a K
theorem Fq62_ok : PureOk Tryz.prog 210 Fq62 := pure_mkD (hint := noHint) (d := 0) (n := 70) mixed tabOk envq62Ok Tryz.func210 (bodySome (by kernel_rfl)) (by decide +kernel) annq62_ok decAq62_ok fnq62_ok fnq62_nat rendq62_ok
--@ region_New
noncomputable def envq55 : Env := [(161,.func Fq8),(210,.pure Fq62)]
theorem envq55Ok : EnvOk Tryz.prog envq55 := EnvOk.cons Fq8_ok (EnvOk.cons Fq62_ok (EnvOk.nil))
noncomputable def bq55 : Code := Tryz.f169.body.getD .skip
noncomputable def annq55 : Ann := .none
theorem annq55_ok : AnnOk Tryz.prog 19 bq55 annq55 := (annOk_none _ _ _)
abbrev Aq55 := (Int) × (Int) × (Int) × (Int) × (Bool) × (List (List UInt8)) × (List (Int × List UInt8)) × (List (Int × List UInt8)) × (List Int)
abbrev Yq55 := (Unit) ⊕ (Unit)
def fnq55 {β : Type} : Aq55 → (Yq55 → Option β) → Option β := fun (a1,a2,o0_3,o0_5,o0_6,o1,o2,o3,o4) exit => (bindO (fnDq8 (o0_3,o0_5,o0_6,o1,o2,o3,o4)) fun r => (bindO (fnDq62 (a1,a2,r)) fun r_2 => (bif !r_2 then (exit (Sum.inl ())) else (exit (Sum.inr ())))))
def fnDq55 (a : Aq55) : Option Yq55 := fnq55 a some
theorem fnq55_nat (a : Aq55) (k : Yq55 → Ans) : fnq55 a k = bindO (fnDq55 a) k := by
  obtain ⟨a1,a2,o0_3,o0_5,o0_6,o1,o2,o3,o4⟩ := a
  simp only [fnDq55,fnq55,bindO_cond,bindO_assoc,bindO_none,bindO_pure,bindO_elim,bindO_unP,bindO_empty]
def argsq55 : Aq55 → List AV × List AE.Obj := fun (a1,a2,o0_3,o0_5,o0_6,o1,o2,o3,o4) => ([.ptr 0 0,.int .i64 a1,.int .i64 a2],[.cells [.own 1,.map 2,.own 3,.int .i64 o0_3,.own 4,.int .i64 o0_5,.bool o0_6],.arr .str o1,.mp .i64 .str o2,.arr (.st (.pair (.int .i64) .str)) o3,.arr (.int .i64) o4])
def decPAq55 (l : List AV) (H : List AE.Obj) : Option {a : Aq55 // (l,H) = argsq55 a} := match l,H with
  | [.ptr 0 0,.int .i64 a1,.int .i64 a2],[.cells [.own 1,.map 2,.own 3,.int .i64 o0_3,.own 4,.int .i64 o0_5,.bool o0_6],.arr .str o1,.mp .i64 .str o2,.arr (.st (.pair (.int .i64) .str)) o3,.arr (.int .i64) o4] => some ⟨(a1,a2,o0_3,o0_5,o0_6,o1,o2,o3,o4),rfl⟩
  | _,_ => none
def decAq55 (l : List AV) (H : List AE.Obj) : Option Aq55 := pk (decPAq55 l H)
theorem decAq55_ok (l : List AV) (H : List AE.Obj) (a : Aq55) (h : decAq55 l H = some a) : (l,H) = argsq55 a := pk_ok (o := decPAq55 l H) h
def outq55 : Aq55 → (AV → List AE.Obj → Ans) → Yq55 → Ans := fun (a1,a2,o0_3,o0_5,o0_6,o1,o2,o3,o4) K => (Sum.elim (fun _ => K (.tup [.nilp,.int .i64 (3)]) [.cells [.own 1,.map 2,.own 3,.int .i64 o0_3,.own 4,.int .i64 o0_5,.bool o0_6],.arr .str o1,.mp .i64 .str o2,.arr (.st (.pair (.int .i64) .str)) o3,.arr (.int .i64) o4]) (fun _ => K (.tup [.ptr 5 0,.int .i64 (0)]) [.cells [.own 1,.map 2,.own 3,.int .i64 o0_3,.own 4,.int .i64 o0_5,.bool o0_6],.arr .str o1,.mp .i64 .str o2,.arr (.st (.pair (.int .i64) .str)) o3,.arr (.int .i64) o4,.cells [.ptr 0 0,.int .i64 a1,.int .i64 a2]]))
theorem fnq55_ok (a : Aq55) (K : AV → List AE.Obj → Ans) : fnE Tryz.tab envq55 noHint 0 70 169 Tryz.f169.ntmps Tryz.f169.results.toList annq55 bq55 (argsq55 a).1 (argsq55 a).2 K = fnq55 a (outq55 a K) := by kernel_rfl
def vFq55 (a : Aq55) (K : AV → List AE.Obj → Ans) : Ans := bindO (fnDq55 a) fun y => outq55 a K y
def Fq55 : List AV → List AE.Obj → (AV → List AE.Obj → Ans) → Ans := fun l H K => bindO (decAq55 l H) fun a => vFq55 a K
theorem Fq55_ok : FuncOk Tryz.prog 169 Fq55 := func_mkD (hint := noHint) (d := 0) (n := 70) mixed tabOk envq55Ok Tryz.func169 (bodySome (by kernel_rfl)) (by decide +kernel) annq55_ok decAq55_ok fnq55_ok fnq55_nat
--@ shadow_New_string
noncomputable def envq63 : Env := []
theorem envq63Ok : EnvOk Tryz.prog envq63 := EnvOk.nil
noncomputable def bq63 : Code := Tryz.f170.body.getD .skip
noncomputable def annq63 : Ann := .none
theorem annq63_ok : AnnOk Tryz.prog 5 bq63 annq63 := (annOk_none _ _ _)
abbrev Aq63 := Unit
abbrev Yq63 := Unit
def fnq63 {β : Type} : Aq63 → (Yq63 → Option β) → Option β := fun _ exit => (exit ())
def fnDq63 (a : Aq63) : Option Yq63 := fnq63 a some
theorem fnq63_nat (a : Aq63) (k : Yq63 → Ans) : fnq63 a k = bindO (fnDq63 a) k := by
  obtain z := a
  simp only [fnDq63,fnq63,bindO_cond,bindO_assoc,bindO_none,bindO_pure,bindO_elim,bindO_unP,bindO_empty]
def argsq63 : Aq63 → List AV × List AE.Obj := fun _ => ([],[])
def decPAq63 (l : List AV) (H : List AE.Obj) : Option {a : Aq63 // (l,H) = argsq63 a} := match l,H with
  | [],[] => some ⟨(),rfl⟩
  | _,_ => none
def decAq63 (l : List AV) (H : List AE.Obj) : Option Aq63 := pk (decPAq63 l H)
theorem decAq63_ok (l : List AV) (H : List AE.Obj) (a : Aq63) (h : decAq63 l H = some a) : (l,H) = argsq63 a := pk_ok (o := decPAq63 l H) h
def outq63 : Aq63 → (AV → List AE.Obj → Ans) → Yq63 → Ans := fun _ K => fun _ => K (.ptr 0 0) [.cells [.map 1,.map 2],.mp .i64 .str ([]),.mp .i64 .str ([])]
theorem fnq63_ok (a : Aq63) (K : AV → List AE.Obj → Ans) : fnE Tryz.tab envq63 noHint 0 70 170 Tryz.f170.ntmps Tryz.f170.results.toList annq63 bq63 (argsq63 a).1 (argsq63 a).2 K = fnq63 a (outq63 a K) := by kernel_rfl
def vFq63 (a : Aq63) (K : AV → List AE.Obj → Ans) : Ans := bindO (fnDq63 a) fun y => outq63 a K y
def Fq63 : List AV → List AE.Obj → (AV → List AE.Obj → Ans) → Ans := fun l H K => bindO (decAq63 l H) fun a => vFq63 a K
theorem Fq63_ok : FuncOk Tryz.prog 170 Fq63 := func_mkD (hint := noHint) (d := 0) (n := 70) mixed tabOk envq63Ok Tryz.func170 (bodySome (by kernel_rfl)) (by decide +kernel) annq63_ok decAq63_ok fnq63_ok fnq63_nat
--@ region_Region_Split
noncomputable def envq60 : Env := [(210,.pure Fq62)]
theorem envq60Ok : EnvOk Tryz.prog envq60 := EnvOk.cons Fq62_ok (EnvOk.nil)
noncomputable def bq60 : Code := Tryz.f171.body.getD .skip
noncomputable def Lq60_n0 : Code := codeAt [1,1,1,1,0,1,0,0] bq60
noncomputable def annLq60_n0 : Ann := .at 6 [2,9,10] (.loop .none)
theorem annLq60_n0_ok : AnnOk Tryz.prog 52 (.loop Lq60_n0) annLq60_n0 := annOk_at (annOk_none _ _ _)
abbrev Iq60_n0 := (Int) × (Int) × (Int) × (Int) × (Bool) × (List (List UInt8)) × (List (Int × List UInt8)) × (List (Int × List UInt8)) × (List Int)
abbrev Yq60_n0 := (List (Int × List UInt8))
abbrev Vq60_n0 := (List UInt8) × (Int) × (List (Int × List UInt8))
def Sq60_n0 : Iq60_n0 → Vq60_n0 → St := fun (o0_1,o0_2,o1_3,o1_5,o1_6,o2,o3,o4,o5) (t2,t10,o6) => { env := [(2,.str t2),(9,.own 6),(10,.int .i64 t10)],stk := [[(0,.ptr 0 0),(1,.ptr 1 0),(3,.map 3)]],H := [.cells [.ptr 1 0,.int .i64 o0_1,.int .i64 o0_2],.cells [.own 2,.map 3,.own 4,.int .i64 o1_3,.own 5,.int .i64 o1_5,.bool o1_6],.arr .str o2,.mp .i64 .str o3,.arr (.st (.pair (.int .i64) .str)) o4,.arr (.int .i64) o5,.arr (.st (.pair (.int .i64) .str)) o6],blk := 700417 }
def decPq60_n0 (s : St) : Option {x : Iq60_n0 × Vq60_n0 // s = Sq60_n0 x.1 x.2} := match s with
  | { env := [(2,.str t2),(9,.own 6),(10,.int .i64 t10)],stk := [[(0,.ptr 0 0),(1,.ptr 1 0),(3,.map 3)]],H := [.cells [.ptr 1 0,.int .i64 o0_1,.int .i64 o0_2],.cells [.own 2,.map 3,.own 4,.int .i64 o1_3,.own 5,.int .i64 o1_5,.bool o1_6],.arr .str o2,.mp .i64 .str o3,.arr (.st (.pair (.int .i64) .str)) o4,.arr (.int .i64) o5,.arr (.st (.pair (.int .i64) .str)) o6],blk := 700417 } => some ⟨((o0_1,o0_2,o1_3,o1_5,o1_6,o2,o3,o4,o5),(t2,t10,o6)),rfl⟩
  | _ => none
def decq60_n0 (s : St) : Option (Iq60_n0 × Vq60_n0) := pk (decPq60_n0 s)
theorem decq60_n0_ok (s : St) (x : Iq60_n0 × Vq60_n0) (h : decq60_n0 s = some x) : s = Sq60_n0 x.1 x.2 := pk_ok (o := decPq60_n0 s) h
def outq60_n0 : Iq60_n0 → (Ex → St → Ans) → Yq60_n0 → Ans := fun (o0_1,o0_2,o1_3,o1_5,o1_6,o2,o3,o4,o5) K => fun o6_y => K (Ex.exit 1) { env := [(9,.own 6)],stk := [[(0,.ptr 0 0),(1,.ptr 1 0),(3,.map 3)]],H := [.cells [.ptr 1 0,.int .i64 o0_1,.int .i64 o0_2],.cells [.own 2,.map 3,.own 4,.int .i64 o1_3,.own 5,.int .i64 o1_5,.bool o1_6],.arr .str o2,.mp .i64 .str o3,.arr (.st (.pair (.int .i64) .str)) o4,.arr (.int .i64) o5,.arr (.st (.pair (.int .i64) .str)) o6_y],blk := 700417 }
def stepq60_n0 {β : Type} : Iq60_n0 → Vq60_n0 → (Vq60_n0 → Option β) → (Yq60_n0 → Option β) → Option β := fun (o0_1,o0_2,o1_3,o1_5,o1_6,o2,o3,o4,o5) (t2,t10,o6) next exit => (bif !t2 == [] then (bif inR (64 : Int) (List.length t2 + (1 : Nat)) then (bif Nat.ble ((List.length o6 + List.length [(t10,List.take (64 : Nat) t2)]) * (24 : Nat)) (140737488355328 : Nat) then (bif inR (64 : Int) (List.length t2 + (1 : Nat)) then (next (List.drop (64 : Nat) t2,IntKind.wrap .i64 (t10 + (1 : Int)),o6 ++ [(t10,List.take (64 : Nat) t2)])) else none) else none) else none) else (exit (o6)))
def stepDq60_n0 (i : Iq60_n0) (v : Vq60_n0) : Option (Vq60_n0 ⊕ Yq60_n0) := stepq60_n0 i v (fun v => some (.inl v)) (fun y => some (.inr y))
theorem stepq60_n0_nat (i : Iq60_n0) (v : Vq60_n0) (next : Vq60_n0 → Ans) (exit : Yq60_n0 → Ans) : stepq60_n0 i v next exit = bindO (stepDq60_n0 i v) (Sum.elim next exit) := by
  obtain ⟨o0_1,o0_2,o1_3,o1_5,o1_6,o2,o3,o4,o5⟩ := i
  obtain ⟨t2,t10,o6⟩ := v
  simp only [stepDq60_n0,stepq60_n0,bindO_cond,bindO_assoc,bindO_none,bindO_pure,bindO_elim,bindO_unP,bindO_empty,Sum.elim_inl,Sum.elim_inr]
theorem stepq60_n0_ok (n : Nat) (i : Iq60_n0) (v : Vq60_n0) (K : Ex → St → Ans) : codeI Tryz.tab envq60 noHint (codeD Tryz.tab envq60 noHint 0 64) (n+1) 52 annLq60_n0 (.loop Lq60_n0) (weakP 6 (exk [9] [6,7] [(1,[9])]) K) (Sq60_n0 i v) = stepq60_n0 i v (fun v' => codeI Tryz.tab envq60 noHint (codeD Tryz.tab envq60 noHint 0 64) n 52 annLq60_n0 (.loop Lq60_n0) (weakP 6 (exk [9] [6,7] [(1,[9])]) K) (Sq60_n0 i v')) (fun y => outq60_n0 i K y) := by kernel_rfl
theorem GNq60_n0_ok : CSum Tryz.prog 52 (.loop Lq60_n0) (sumL decq60_n0 stepDq60_n0 outq60_n0) := csum_loop mixed tabOk envq60Ok 6 (exk [9] [6,7] [(1,[9])]) annLq60_n0_ok decq60_n0_ok stepq60_n0_ok stepq60_n0_nat
noncomputable def Gq60_n0 : (Ex → St → Ans) → St → Ans := (sumL decq60_n0 stepDq60_n0 outq60_n0)
theorem Gq60_n0_ok : CSum Tryz.prog 52 (.loop Lq60_n0) Gq60_n0 := GNq60_n0_ok
noncomputable def annq60 : Ann := (.seq .none (.seq .none (.seq .none (.seq .none (.seq (.seq .none (.block (.cut 6 [2,9,10] Gq60_n0))) .none)))))
theorem annq60_ok : AnnOk Tryz.prog 52 bq60 annq60 := ⟨(annOk_none _ _ _),⟨(annOk_none _ _ _),⟨(annOk_none _ _ _),⟨(annOk_none _ _ _),⟨⟨(annOk_none _ _ _),Gq60_n0_ok⟩,(annOk_none _ _ _)⟩⟩⟩⟩⟩
abbrev Aq60 := (Int) × (List UInt8) × (Int) × (Int) × (Int) × (Int) × (Bool) × (List (List UInt8)) × (List (Int × List UInt8)) × (List (Int × List UInt8)) × (List Int)
abbrev Yq60 := (Int) × (List (Int × List UInt8))
def fnq60 {β : Type} : Aq60 → (Yq60 → Option β) → Option β := fun (a1,a2,o0_1,o0_2,o1_3,o1_5,o1_6,o2,o3,o4,o5) exit => (bif IntKind.wrap .i64 (IntKind.wrap .i64 (Int.tdiv (↑(List.length a2) : Int) (64 : Int)) * (64 : Int)) != (↑(List.length a2) : Int) then (exit ((12 : Int),[])) else (bindO (fnDq62 (a1,IntKind.wrap .i64 (Int.tdiv (↑(List.length a2) : Int) (64 : Int)),o0_2)) fun r => (bif !r then (exit ((3 : Int),[])) else (bindO (loopD (stepDq60_n0 (o0_1,o0_2,o1_3,o1_5,o1_6,o2,o3,o4,o5)) FUEL (a2,IntKind.wrap .i64 (o0_1 + a1),[])) fun o6 => (exit ((0 : Int),o6))))))
def fnDq60 (a : Aq60) : Option Yq60 := fnq60 a some
theorem fnq60_nat (a : Aq60) (k : Yq60 → Ans) : fnq60 a k = bindO (fnDq60 a) k := by
  obtain ⟨a1,a2,o0_1,o0_2,o1_3,o1_5,o1_6,o2,o3,o4,o5⟩ := a
  simp only [fnDq60,fnq60,bindO_cond,bindO_assoc,bindO_none,bindO_pure,bindO_elim,bindO_unP,bindO_empty]
def argsq60 : Aq60 → List AV × List AE.Obj := fun (a1,a2,o0_1,o0_2,o1_3,o1_5,o1_6,o2,o3,o4,o5) => ([.ptr 0 0,.int .i64 a1,.str a2],[.cells [.ptr 1 0,.int .i64 o0_1,.int .i64 o0_2],.cells [.own 2,.map 3,.own 4,.int .i64 o1_3,.own 5,.int .i64 o1_5,.bool o1_6],.arr .str o2,.mp .i64 .str o3,.arr (.st (.pair (.int .i64) .str)) o4,.arr (.int .i64) o5])
def decPAq60 (l : List AV) (H : List AE.Obj) : Option {a : Aq60 // (l,H) = argsq60 a} := match l,H with
  | [.ptr 0 0,.int .i64 a1,.str a2],[.cells [.ptr 1 0,.int .i64 o0_1,.int .i64 o0_2],.cells [.own 2,.map 3,.own 4,.int .i64 o1_3,.own 5,.int .i64 o1_5,.bool o1_6],.arr .str o2,.mp .i64 .str o3,.arr (.st (.pair (.int .i64) .str)) o4,.arr (.int .i64) o5] => some ⟨(a1,a2,o0_1,o0_2,o1_3,o1_5,o1_6,o2,o3,o4,o5),rfl⟩
  | _,_ => none
def decAq60 (l : List AV) (H : List AE.Obj) : Option Aq60 := pk (decPAq60 l H)
theorem decAq60_ok (l : List AV) (H : List AE.Obj) (a : Aq60) (h : decAq60 l H = some a) : (l,H) = argsq60 a := pk_ok (o := decPAq60 l H) h
def outq60 : Aq60 → (AV → List AE.Obj → Ans) → Yq60 → Ans := fun (a1,a2,o0_1,o0_2,o1_3,o1_5,o1_6,o2,o3,o4,o5) K => unP fun r_1_y o6_y => K (.tup [.own 6,.int .i64 r_1_y]) [.cells [.ptr 1 0,.int .i64 o0_1,.int .i64 o0_2],.cells [.own 2,.map 3,.own 4,.int .i64 o1_3,.own 5,.int .i64 o1_5,.bool o1_6],.arr .str o2,.mp .i64 .str o3,.arr (.st (.pair (.int .i64) .str)) o4,.arr (.int .i64) o5,.arr (.st (.pair (.int .i64) .str)) o6_y]
theorem fnq60_ok (a : Aq60) (K : AV → List AE.Obj → Ans) : fnE Tryz.tab envq60 noHint 0 70 171 Tryz.f171.ntmps Tryz.f171.results.toList annq60 bq60 (argsq60 a).1 (argsq60 a).2 K = fnq60 a (outq60 a K) := by kernel_rfl
def vFq60 (a : Aq60) (K : AV → List AE.Obj → Ans) : Ans := bindO (fnDq60 a) fun y => outq60 a K y
def Fq60 : List AV → List AE.Obj → (AV → List AE.Obj → Ans) → Ans := fun l H K => bindO (decAq60 l H) fun a => vFq60 a K
theorem Fq60_ok : FuncOk Tryz.prog 171 Fq60 := func_mkD (hint := noHint) (d := 0) (n := 70) mixed tabOk envq60Ok Tryz.func171 (bodySome (by kernel_rfl)) (by decide +kernel) annq60_ok decAq60_ok fnq60_ok fnq60_nat
--@ slices_Index_int_int
noncomputable def envq77 : Env := []
theorem envq77Ok : EnvOk Tryz.prog envq77 := EnvOk.nil
noncomputable def bq77 : Code := Tryz.f241.body.getD .skip
noncomputable def Lq77_n0 : Code := codeAt [1,0,1,0,0] bq77
noncomputable def annLq77_n0 : Ann := .at 0 [0,1,7,8] (.loop .none)
theorem annLq77_n0_ok : AnnOk Tryz.prog 19 (.loop Lq77_n0) annLq77_n0 := annOk_at (annOk_none _ _ _)
abbrev Iq77_n0 := (List Int) × (Int) × (Int)
abbrev Yq77_n0 := ((Int)) ⊕ (Unit)
abbrev Vq77_n0 := (Int)
def Sq77_n0 : Iq77_n0 → Vq77_n0 → St := fun (t0,t1,t7) t8 => { env := [(0,.ro (.int .i64) t0),(1,.int .i64 t1),(7,.int .i64 t7),(8,.int .i64 t8)],stk := [[]],H := [],blk := 987136 }
def decPq77_n0 (s : St) : Option {x : Iq77_n0 × Vq77_n0 // s = Sq77_n0 x.1 x.2} := match s with
  | { env := [(0,.ro (.int .i64) t0),(1,.int .i64 t1),(7,.int .i64 t7),(8,.int .i64 t8)],stk := [[]],H := [],blk := 987136 } => some ⟨((t0,t1,t7),t8),rfl⟩
  | _ => none
def decq77_n0 (s : St) : Option (Iq77_n0 × Vq77_n0) := pk (decPq77_n0 s)
theorem decq77_n0_ok (s : St) (x : Iq77_n0 × Vq77_n0) (h : decq77_n0 s = some x) : s = Sq77_n0 x.1 x.2 := pk_ok (o := decPq77_n0 s) h
def outq77_n0 : Iq77_n0 → (Ex → St → Ans) → Yq77_n0 → Ans := fun (t0,t1,t7) K => (Sum.elim (fun t4_y => K (Ex.ret) { env := [(4,.int .i64 t4_y)],stk := [[]],H := [],blk := 987137 }) (fun _ => K (Ex.exit 0) { env := [],stk := [[]],H := [],blk := 987136 }))
def stepq77_n0 {β : Type} : Iq77_n0 → Vq77_n0 → (Vq77_n0 → Option β) → (Yq77_n0 → Option β) → Option β := fun (t0,t1,t7) t8 next exit => (bif decide (t8 < t7) then (bindO (nth t0 t8) fun x => (bif t1 == x then (exit (Sum.inl (t8))) else (next (IntKind.wrap .i64 (t8 + (1 : Int)))))) else (exit (Sum.inr ())))
def stepDq77_n0 (i : Iq77_n0) (v : Vq77_n0) : Option (Vq77_n0 ⊕ Yq77_n0) := stepq77_n0 i v (fun v => some (.inl v)) (fun y => some (.inr y))
theorem stepq77_n0_nat (i : Iq77_n0) (v : Vq77_n0) (next : Vq77_n0 → Ans) (exit : Yq77_n0 → Ans) : stepq77_n0 i v next exit = bindO (stepDq77_n0 i v) (Sum.elim next exit) := by
  obtain ⟨t0,t1,t7⟩ := i
  obtain z := v
  simp only [stepDq77_n0,stepq77_n0,bindO_cond,bindO_assoc,bindO_none,bindO_pure,bindO_elim,bindO_unP,bindO_empty,Sum.elim_inl,Sum.elim_inr]
theorem stepq77_n0_ok (n : Nat) (i : Iq77_n0) (v : Vq77_n0) (K : Ex → St → Ans) : codeI Tryz.tab envq77 noHint (codeD Tryz.tab envq77 noHint 0 64) (n+1) 19 annLq77_n0 (.loop Lq77_n0) (weakP 0 (exk [] [4] [(0,[])]) K) (Sq77_n0 i v) = stepq77_n0 i v (fun v' => codeI Tryz.tab envq77 noHint (codeD Tryz.tab envq77 noHint 0 64) n 19 annLq77_n0 (.loop Lq77_n0) (weakP 0 (exk [] [4] [(0,[])]) K) (Sq77_n0 i v')) (fun y => outq77_n0 i K y) := by kernel_rfl
theorem GNq77_n0_ok : CSum Tryz.prog 19 (.loop Lq77_n0) (sumL decq77_n0 stepDq77_n0 outq77_n0) := csum_loop mixed tabOk envq77Ok 0 (exk [] [4] [(0,[])]) annLq77_n0_ok decq77_n0_ok stepq77_n0_ok stepq77_n0_nat
noncomputable def Gq77_n0 : (Ex → St → Ans) → St → Ans := (sumL decq77_n0 stepDq77_n0 outq77_n0)
theorem Gq77_n0_ok : CSum Tryz.prog 19 (.loop Lq77_n0) Gq77_n0 := GNq77_n0_ok
noncomputable def annq77 : Ann := (.seq .none (.seq (.seq .none (.block (.cut 0 [0,1,7,8] Gq77_n0))) .none))
theorem annq77_ok : AnnOk Tryz.prog 19 bq77 annq77 := ⟨(annOk_none _ _ _),⟨⟨(annOk_none _ _ _),Gq77_n0_ok⟩,(annOk_none _ _ _)⟩⟩
abbrev Aq77 := (List Int) × (Int)
abbrev Yq77 := (Int)
def fnq77 {β : Type} : Aq77 → (Yq77 → Option β) → Option β := fun (a0,a1) exit => (bindO (loopD (stepDq77_n0 (a0,a1,(↑(List.length a0) : Int))) FUEL ((0 : Int))) (Sum.elim (fun t4 => (exit (t4))) (fun _ => (exit ((-1 : Int))))))
def fnDq77 (a : Aq77) : Option Yq77 := fnq77 a some
theorem fnq77_nat (a : Aq77) (k : Yq77 → Ans) : fnq77 a k = bindO (fnDq77 a) k := by
  obtain ⟨a0,a1⟩ := a
  simp only [fnDq77,fnq77,bindO_cond,bindO_assoc,bindO_none,bindO_pure,bindO_elim,bindO_unP,bindO_empty]
def argsq77 : Aq77 → List AV := fun (a0,a1) => [.ro (.int .i64) a0,.int .i64 a1]
def decPAq77 (l : List AV) : Option {a : Aq77 // l = argsq77 a} := match l with
  | [.ro (.int .i64) a0,.int .i64 a1] => some ⟨(a0,a1),rfl⟩
  | _ => none
def decAq77 (l : List AV) : Option Aq77 := pk (decPAq77 l)
theorem decAq77_ok (l : List AV) (a : Aq77) (h : decAq77 l = some a) : l = argsq77 a := pk_ok (o := decPAq77 l) h
def rendq77 : Aq77 → Yq77 → AV := fun (a0,a1) => fun r_y => .int .i64 r_y
theorem rendq77_ok : ∀ (a : Aq77) (y : Yq77),(rendq77 a y).closed1 = true := by
  rintro ⟨a0,a1⟩ y <;> first | rfl | exact Empty.elim y
theorem fnq77_ok (a : Aq77) : fnE Tryz.tab envq77 noHint 0 70 241 Tryz.f241.ntmps Tryz.f241.results.toList annq77 bq77 (argsq77 a) [] (fun v _ => some (v,[])) = fnq77 a (fun y => some (rendq77 a y,[])) := by kernel_rfl
def vFq77 (a : Aq77) (K : AV → Ans) : Ans := bindO (fnDq77 a) fun y => K (rendq77 a y)
def Fq77 : List AV → (AV → Ans) → Ans := fun l K => bindO (decAq77 l) fun a => vFq77 a K
theorem Fq77_ok : PureOk Tryz.prog 241 Fq77 := pure_mkD (hint := noHint) (d := 0) (n := 70) mixed tabOk envq77Ok Tryz.func241 (bodySome (by kernel_rfl)) (by decide +kernel) annq77_ok decAq77_ok fnq77_ok fnq77_nat rendq77_ok
--@ slices_Contains_int_int
noncomputable def envq75 : Env := [(241,.pure Fq77)]
theorem envq75Ok : EnvOk Tryz.prog envq75 := EnvOk.cons Fq77_ok (EnvOk.nil)
noncomputable def bq75 : Code := Tryz.f218.body.getD .skip
noncomputable def annq75 : Ann := .none
theorem annq75_ok : AnnOk Tryz.prog 9 bq75 annq75 := (annOk_none _ _ _)
abbrev Aq75 := (List Int) × (Int)
abbrev Yq75 := (Bool)
def fnq75 {β : Type} : Aq75 → (Yq75 → Option β) → Option β := fun (a0,a1) exit => (bindO (fnDq77 (a0,a1)) fun r => (exit (decide (r ≥ (0 : Int)))))
def fnDq75 (a : Aq75) : Option Yq75 := fnq75 a some
theorem fnq75_nat (a : Aq75) (k : Yq75 → Ans) : fnq75 a k = bindO (fnDq75 a) k := by
  obtain ⟨a0,a1⟩ := a
  simp only [fnDq75,fnq75,bindO_cond,bindO_assoc,bindO_none,bindO_pure,bindO_elim,bindO_unP,bindO_empty]
def argsq75 : Aq75 → List AV := fun (a0,a1) => [.ro (.int .i64) a0,.int .i64 a1]
def decPAq75 (l : List AV) : Option {a : Aq75 // l = argsq75 a} := match l with
  | [.ro (.int .i64) a0,.int .i64 a1] => some ⟨(a0,a1),rfl⟩
  | _ => none
def decAq75 (l : List AV) : Option Aq75 := pk (decPAq75 l)
theorem decAq75_ok (l : List AV) (a : Aq75) (h : decAq75 l = some a) : l = argsq75 a := pk_ok (o := decPAq75 l) h
def rendq75 : Aq75 → Yq75 → AV := fun (a0,a1) => fun r_y => .bool r_y
theorem rendq75_ok : ∀ (a : Aq75) (y : Yq75),(rendq75 a y).closed1 = true := by
  rintro ⟨a0,a1⟩ y <;> first | rfl | exact Empty.elim y
theorem fnq75_ok (a : Aq75) : fnE Tryz.tab envq75 noHint 0 70 218 Tryz.f218.ntmps Tryz.f218.results.toList annq75 bq75 (argsq75 a) [] (fun v _ => some (v,[])) = fnq75 a (fun y => some (rendq75 a y,[])) := by kernel_rfl
def vFq75 (a : Aq75) (K : AV → Ans) : Ans := bindO (fnDq75 a) fun y => K (rendq75 a y)
def Fq75 : List AV → (AV → Ans) → Ans := fun l K => bindO (decAq75 l) fun a => vFq75 a K
theorem Fq75_ok : PureOk Tryz.prog 218 Fq75 := pure_mkD (hint := noHint) (d := 0) (n := 70) mixed tabOk envq75Ok Tryz.func218 (bodySome (by kernel_rfl)) (by decide +kernel) annq75_ok decAq75_ok fnq75_ok fnq75_nat rendq75_ok
--@ disk_Disk_call
noncomputable def envq10 : Env := [(218,.pure Fq75)]
theorem envq10Ok : EnvOk Tryz.prog envq10 := EnvOk.cons Fq75_ok (EnvOk.nil)
noncomputable def bq10 : Code := Tryz.f181.body.getD .skip
noncomputable def annq10 : Ann := .none
theorem annq10_ok : AnnOk Tryz.prog 41 bq10 annq10 := (annOk_none _ _ _)
abbrev Aq10 := (Int) × (Int) × (Bool) × (List (List UInt8)) × (List (Int × List UInt8)) × (List (Int × List UInt8)) × (List Int)
abbrev Yq10 := (Int) × (Bool) × (Int) × (Bool)
def fnq10 {β : Type} : Aq10 → (Yq10 → Option β) → Option β := fun (o0_3,o0_5,o0_6,o1,o2,o3,o4) exit => (bif o0_6 then (exit ((31 : Int),false,IntKind.wrap .i64 (o0_3 + (1 : Int)),o0_6)) else (bif IntKind.wrap .i64 (o0_3 + (1 : Int)) == o0_5 then (exit ((31 : Int),true,IntKind.wrap .i64 (o0_3 + (1 : Int)),true)) else (bindO (fnDq75 (o4,IntKind.wrap .i64 (o0_3 + (1 : Int)))) fun r => (bif r then (exit ((30 : Int),false,IntKind.wrap .i64 (o0_3 + (1 : Int)),o0_6)) else (exit ((0 : Int),false,IntKind.wrap .i64 (o0_3 + (1 : Int)),o0_6))))))
def fnDq10 (a : Aq10) : Option Yq10 := fnq10 a some
theorem fnq10_nat (a : Aq10) (k : Yq10 → Ans) : fnq10 a k = bindO (fnDq10 a) k := by
  obtain ⟨o0_3,o0_5,o0_6,o1,o2,o3,o4⟩ := a
  simp only [fnDq10,fnq10,bindO_cond,bindO_assoc,bindO_none,bindO_pure,bindO_elim,bindO_unP,bindO_empty]
def argsq10 : Aq10 → List AV × List AE.Obj := fun (o0_3,o0_5,o0_6,o1,o2,o3,o4) => ([.ptr 0 0],[.cells [.own 1,.map 2,.own 3,.int .i64 o0_3,.own 4,.int .i64 o0_5,.bool o0_6],.arr .str o1,.mp .i64 .str o2,.arr (.st (.pair (.int .i64) .str)) o3,.arr (.int .i64) o4])
def decPAq10 (l : List AV) (H : List AE.Obj) : Option {a : Aq10 // (l,H) = argsq10 a} := match l,H with
  | [.ptr 0 0],[.cells [.own 1,.map 2,.own 3,.int .i64 o0_3,.own 4,.int .i64 o0_5,.bool o0_6],.arr .str o1,.mp .i64 .str o2,.arr (.st (.pair (.int .i64) .str)) o3,.arr (.int .i64) o4] => some ⟨(o0_3,o0_5,o0_6,o1,o2,o3,o4),rfl⟩
  | _,_ => none
def decAq10 (l : List AV) (H : List AE.Obj) : Option Aq10 := pk (decPAq10 l H)
theorem decAq10_ok (l : List AV) (H : List AE.Obj) (a : Aq10) (h : decAq10 l H = some a) : (l,H) = argsq10 a := pk_ok (o := decPAq10 l H) h
def outq10 : Aq10 → (AV → List AE.Obj → Ans) → Yq10 → Ans := fun (o0_3,o0_5,o0_6,o1,o2,o3,o4) K => unP fun r_0_y => unP fun r_1_y => unP fun o0_3_y o0_6_y => K (.tup [.int .i64 r_0_y,.bool r_1_y]) [.cells [.own 1,.map 2,.own 3,.int .i64 o0_3_y,.own 4,.int .i64 o0_5,.bool o0_6_y],.arr .str o1,.mp .i64 .str o2,.arr (.st (.pair (.int .i64) .str)) o3,.arr (.int .i64) o4]
theorem fnq10_ok (a : Aq10) (K : AV → List AE.Obj → Ans) : fnE Tryz.tab envq10 noHint 0 70 181 Tryz.f181.ntmps Tryz.f181.results.toList annq10 bq10 (argsq10 a).1 (argsq10 a).2 K = fnq10 a (outq10 a K) := by kernel_rfl
def vFq10 (a : Aq10) (K : AV → List AE.Obj → Ans) : Ans := bindO (fnDq10 a) fun y => outq10 a K y
def Fq10 : List AV → List AE.Obj → (AV → List AE.Obj → Ans) → Ans := fun l H K => bindO (decAq10 l H) fun a => vFq10 a K
theorem Fq10_ok : FuncOk Tryz.prog 181 Fq10 := func_mkD (hint := noHint) (d := 0) (n := 70) mixed tabOk envq10Ok Tryz.func181 (bodySome (by kernel_rfl)) (by decide +kernel) annq10_ok decAq10_ok fnq10_ok fnq10_nat
--@ disk_Disk_there
noncomputable def envq12 : Env := [(161,.func Fq8)]
theorem envq12Ok : EnvOk Tryz.prog envq12 := EnvOk.cons Fq8_ok (EnvOk.nil)
noncomputable def bq12 : Code := Tryz.f182.body.getD .skip
noncomputable def Lq12_n0 : Code := codeAt [1,0] bq12
noncomputable def annLq12_n0 : Ann := .none
theorem annLq12_n0_ok : AnnOk Tryz.prog 13 Lq12_n0 annLq12_n0 := (annOk_none _ _ _)
abbrev Iq12_n0 := (Int) × (Int) × (Int) × (Bool) × (List (List UInt8)) × (List (Int × List UInt8)) × (List (Int × List UInt8)) × (List Int)
abbrev Yq12_n0 := (Bool)
def Sq12_n0 : Iq12_n0 → St := fun (t1,o0_3,o0_5,o0_6,o1,o2,o3,o4) => { env := [(0,.ptr 0 0),(1,.int .i64 t1)],stk := [[(0,.ptr 0 0),(2,.map 2)]],H := [.cells [.own 1,.map 2,.own 3,.int .i64 o0_3,.own 4,.int .i64 o0_5,.bool o0_6],.arr .str o1,.mp .i64 .str o2,.arr (.st (.pair (.int .i64) .str)) o3,.arr (.int .i64) o4],blk := 745472 }
def decPq12_n0 (s : St) : Option {x : Iq12_n0 // s = Sq12_n0 x} := match s with
  | { env := [(0,.ptr 0 0),(1,.int .i64 t1)],stk := [[(0,.ptr 0 0),(2,.map 2)]],H := [.cells [.own 1,.map 2,.own 3,.int .i64 o0_3,.own 4,.int .i64 o0_5,.bool o0_6],.arr .str o1,.mp .i64 .str o2,.arr (.st (.pair (.int .i64) .str)) o3,.arr (.int .i64) o4],blk := 745472 } => some ⟨(t1,o0_3,o0_5,o0_6,o1,o2,o3,o4),rfl⟩
  | _ => none
def decq12_n0 (s : St) : Option Iq12_n0 := pk (decPq12_n0 s)
theorem decq12_n0_ok (s : St) (x : Iq12_n0) (h : decq12_n0 s = some x) : s = Sq12_n0 x := pk_ok (o := decPq12_n0 s) h
def outq12_n0 : Iq12_n0 → (Ex → St → Ans) → Yq12_n0 → Ans := fun (t1,o0_3,o0_5,o0_6,o1,o2,o3,o4) K => fun t4_y => K (Ex.norm) { env := [(4,.bool t4_y)],stk := [[(0,.ptr 0 0),(2,.map 2)]],H := [.cells [.own 1,.map 2,.own 3,.int .i64 o0_3,.own 4,.int .i64 o0_5,.bool o0_6],.arr .str o1,.mp .i64 .str o2,.arr (.st (.pair (.int .i64) .str)) o3,.arr (.int .i64) o4],blk := 745472 }
def nodeq12_n0 {β : Type} : Iq12_n0 → (Yq12_n0 → Option β) → Option β := fun (t1,o0_3,o0_5,o0_6,o1,o2,o3,o4) exit => (bif decide (t1 ≥ (0 : Int)) then (bindO (fnDq8 (o0_3,o0_5,o0_6,o1,o2,o3,o4)) fun r => (exit (decide (t1 < r)))) else (exit (false)))
def nodeDq12_n0 (i : Iq12_n0) : Option Yq12_n0 := nodeq12_n0 i some
theorem nodeq12_n0_nat (i : Iq12_n0) (k : Yq12_n0 → Ans) : nodeq12_n0 i k = bindO (nodeDq12_n0 i) k := by
  obtain ⟨t1,o0_3,o0_5,o0_6,o1,o2,o3,o4⟩ := i
  simp only [nodeDq12_n0,nodeq12_n0,bindO_cond,bindO_assoc,bindO_none,bindO_pure,bindO_elim,bindO_unP,bindO_empty]
theorem nodeq12_n0_ok (i : Iq12_n0) (K : Ex → St → Ans) : codeI Tryz.tab envq12 noHint (codeD Tryz.tab envq12 noHint 0 64) 70 13 annLq12_n0 Lq12_n0 (weakP 5 (exk [4] [4] []) K) (Sq12_n0 i) = nodeq12_n0 i (outq12_n0 i K) := by kernel_rfl
theorem GNq12_n0_ok : CSum Tryz.prog 13 Lq12_n0 (sumN decq12_n0 nodeDq12_n0 outq12_n0) := csum_node mixed tabOk envq12Ok 5 (exk [4] [4] []) annLq12_n0_ok decq12_n0_ok nodeq12_n0_ok nodeq12_n0_nat
noncomputable def Gq12_n0 : (Ex → St → Ans) → St → Ans := (sumN decq12_n0 nodeDq12_n0 outq12_n0)
theorem Gq12_n0_ok : CSum Tryz.prog 13 Lq12_n0 Gq12_n0 := GNq12_n0_ok
noncomputable def annq12 : Ann := (.seq .none (.seq (.cut 5 [0,1] Gq12_n0) .none))
theorem annq12_ok : AnnOk Tryz.prog 13 bq12 annq12 := ⟨(annOk_none _ _ _),⟨Gq12_n0_ok,(annOk_none _ _ _)⟩⟩
abbrev Aq12 := (Int) × (Int) × (Int) × (Bool) × (List (List UInt8)) × (List (Int × List UInt8)) × (List (Int × List UInt8)) × (List Int)
abbrev Yq12 := (Bool)
def fnq12 {β : Type} : Aq12 → (Yq12 → Option β) → Option β := fun (a1,o0_3,o0_5,o0_6,o1,o2,o3,o4) exit => (bindO (nodeDq12_n0 (a1,o0_3,o0_5,o0_6,o1,o2,o3,o4)) fun t4 => (exit (t4)))
def fnDq12 (a : Aq12) : Option Yq12 := fnq12 a some
theorem fnq12_nat (a : Aq12) (k : Yq12 → Ans) : fnq12 a k = bindO (fnDq12 a) k := by
  obtain ⟨a1,o0_3,o0_5,o0_6,o1,o2,o3,o4⟩ := a
  simp only [fnDq12,fnq12,bindO_cond,bindO_assoc,bindO_none,bindO_pure,bindO_elim,bindO_unP,bindO_empty]
def argsq12 : Aq12 → List AV × List AE.Obj := fun (a1,o0_3,o0_5,o0_6,o1,o2,o3,o4) => ([.ptr 0 0,.int .i64 a1],[.cells [.own 1,.map 2,.own 3,.int .i64 o0_3,.own 4,.int .i64 o0_5,.bool o0_6],.arr .str o1,.mp .i64 .str o2,.arr (.st (.pair (.int .i64) .str)) o3,.arr (.int .i64) o4])
def decPAq12 (l : List AV) (H : List AE.Obj) : Option {a : Aq12 // (l,H) = argsq12 a} := match l,H with
  | [.ptr 0 0,.int .i64 a1],[.cells [.own 1,.map 2,.own 3,.int .i64 o0_3,.own 4,.int .i64 o0_5,.bool o0_6],.arr .str o1,.mp .i64 .str o2,.arr (.st (.pair (.int .i64) .str)) o3,.arr (.int .i64) o4] => some ⟨(a1,o0_3,o0_5,o0_6,o1,o2,o3,o4),rfl⟩
  | _,_ => none
def decAq12 (l : List AV) (H : List AE.Obj) : Option Aq12 := pk (decPAq12 l H)
theorem decAq12_ok (l : List AV) (H : List AE.Obj) (a : Aq12) (h : decAq12 l H = some a) : (l,H) = argsq12 a := pk_ok (o := decPAq12 l H) h
def outq12 : Aq12 → (AV → List AE.Obj → Ans) → Yq12 → Ans := fun (a1,o0_3,o0_5,o0_6,o1,o2,o3,o4) K => fun r_y => K (.bool r_y) [.cells [.own 1,.map 2,.own 3,.int .i64 o0_3,.own 4,.int .i64 o0_5,.bool o0_6],.arr .str o1,.mp .i64 .str o2,.arr (.st (.pair (.int .i64) .str)) o3,.arr (.int .i64) o4]
theorem fnq12_ok (a : Aq12) (K : AV → List AE.Obj → Ans) : fnE Tryz.tab envq12 noHint 0 70 182 Tryz.f182.ntmps Tryz.f182.results.toList annq12 bq12 (argsq12 a).1 (argsq12 a).2 K = fnq12 a (outq12 a K) := by kernel_rfl
def vFq12 (a : Aq12) (K : AV → List AE.Obj → Ans) : Ans := bindO (fnDq12 a) fun y => outq12 a K y
def Fq12 : List AV → List AE.Obj → (AV → List AE.Obj → Ans) → Ans := fun l H K => bindO (decAq12 l H) fun a => vFq12 a K
theorem Fq12_ok : FuncOk Tryz.prog 182 Fq12 := func_mkD (hint := noHint) (d := 0) (n := 70) mixed tabOk envq12Ok Tryz.func182 (bodySome (by kernel_rfl)) (by decide +kernel) annq12_ok decAq12_ok fnq12_ok fnq12_nat
--@ disk_Disk_Write
noncomputable def envq9 : Env := [(181,.func Fq10),(182,.func Fq12)]
theorem envq9Ok : EnvOk Tryz.prog envq9 := EnvOk.cons Fq10_ok (EnvOk.cons Fq12_ok (EnvOk.nil))
noncomputable def bq9 : Code := Tryz.f159.body.getD .skip
noncomputable def Lq9_n3 : Code := codeAt [1,1,1,1,0,1] bq9
noncomputable def annLq9_n3 : Ann := .none
theorem annLq9_n3_ok : AnnOk Tryz.prog 64 Lq9_n3 annLq9_n3 := (annOk_none _ _ _)
abbrev Iq9_n3 := (Int) × (List UInt8) × (Int) × (Int) × (Int) × (Bool) × (List (List UInt8)) × (List (Int × List UInt8)) × (List (Int × List UInt8)) × (List Int)
abbrev Yq9_n3 := Unit
def Sq9_n3 : Iq9_n3 → St := fun (t1,t2,t7,o0_3,o0_5,o0_6,o1,o2,o3,o4) => { env := [(0,.ptr 0 0),(1,.int .i64 t1),(2,.str t2),(7,.int .i64 t7),(40,.bool (false))],stk := [[(0,.ptr 0 0),(2,.map 2)]],H := [.cells [.own 1,.map 2,.own 3,.int .i64 o0_3,.own 4,.int .i64 o0_5,.bool o0_6],.arr .str o1,.mp .i64 .str o2,.arr (.st (.pair (.int .i64) .str)) o3,.arr (.int .i64) o4],blk := 651264 }
def decPq9_n3 (s : St) : Option {x : Iq9_n3 // s = Sq9_n3 x} := match s with
  | { env := [(0,.ptr 0 0),(1,.int .i64 t1),(2,.str t2),(7,.int .i64 t7),(40,.bool r3)],stk := [[(0,.ptr 0 0),(2,.map 2)]],H := [.cells [.own 1,.map 2,.own 3,.int .i64 o0_3,.own 4,.int .i64 o0_5,.bool o0_6],.arr .str o1,.mp .i64 .str o2,.arr (.st (.pair (.int .i64) .str)) o3,.arr (.int .i64) o4],blk := 651264 } => if h3 : r3 = false then some ⟨(t1,t2,t7,o0_3,o0_5,o0_6,o1,o2,o3,o4),by subst h3; rfl⟩ else none
  | _ => none
def decq9_n3 (s : St) : Option Iq9_n3 := pk (decPq9_n3 s)
theorem decq9_n3_ok (s : St) (x : Iq9_n3) (h : decq9_n3 s = some x) : s = Sq9_n3 x := pk_ok (o := decPq9_n3 s) h
def outq9_n3 : Iq9_n3 → (Ex → St → Ans) → Yq9_n3 → Ans := fun (t1,t2,t7,o0_3,o0_5,o0_6,o1,o2,o3,o4) K => fun _ => K (Ex.norm) { env := [(0,.ptr 0 0),(1,.int .i64 t1),(2,.str t2),(7,.int .i64 t7)],stk := [[(0,.ptr 0 0),(2,.map 2)]],H := [.cells [.own 1,.map 2,.own 3,.int .i64 o0_3,.own 4,.int .i64 o0_5,.bool o0_6],.arr .str o1,.mp .i64 .str o2,.arr (.st (.pair (.int .i64) .str)) o3,.arr (.int .i64) o4],blk := 651264 }
def nodeq9_n3 {β : Type} : Iq9_n3 → (Yq9_n3 → Option β) → Option β := fun (t1,t2,t7,o0_3,o0_5,o0_6,o1,o2,o3,o4) exit => (exit ())
def nodeDq9_n3 (i : Iq9_n3) : Option Yq9_n3 := nodeq9_n3 i some
theorem nodeq9_n3_nat (i : Iq9_n3) (k : Yq9_n3 → Ans) : nodeq9_n3 i k = bindO (nodeDq9_n3 i) k := by
  obtain ⟨t1,t2,t7,o0_3,o0_5,o0_6,o1,o2,o3,o4⟩ := i
  simp only [nodeDq9_n3,nodeq9_n3,bindO_cond,bindO_assoc,bindO_none,bindO_pure,bindO_elim,bindO_unP,bindO_empty]
theorem nodeq9_n3_ok (i : Iq9_n3) (K : Ex → St → Ans) : codeI Tryz.tab envq9 noHint (codeD Tryz.tab envq9 noHint 0 64) 70 64 annLq9_n3 Lq9_n3 (weakP 5 (exk [0,1,2,7] [6] []) K) (Sq9_n3 i) = nodeq9_n3 i (outq9_n3 i K) := by kernel_rfl
theorem GNq9_n3_ok : CSum Tryz.prog 64 Lq9_n3 (sumN decq9_n3 nodeDq9_n3 outq9_n3) := csum_node mixed tabOk envq9Ok 5 (exk [0,1,2,7] [6] []) annLq9_n3_ok decq9_n3_ok nodeq9_n3_ok nodeq9_n3_nat
noncomputable def Gq9_n3 : (Ex → St → Ans) → St → Ans := (sumN decq9_n3 nodeDq9_n3 outq9_n3)
theorem Gq9_n3_ok : CSum Tryz.prog 64 Lq9_n3 Gq9_n3 := GNq9_n3_ok
noncomputable def Lq9_n2 : Code := codeAt [1,1,1,0,0,1,1,1,0,0,1] bq9
noncomputable def annLq9_n2 : Ann := .none
theorem annLq9_n2_ok : AnnOk Tryz.prog 64 Lq9_n2 annLq9_n2 := (annOk_none _ _ _)
abbrev Iq9_n2 := (Int) × (Bool) × (Int) × (Int) × (Bool) × (List (List UInt8)) × (List (Int × List UInt8)) × (List (Int × List UInt8)) × (List Int)
abbrev Yq9_n2 := (Int)
def Sq9_n2 : Iq9_n2 → St := fun (t7,t34,o0_3,o0_5,o0_6,o1,o2,o3,o4) => { env := [(7,.int .i64 t7),(34,.bool t34)],stk := [[(0,.ptr 0 0),(2,.map 2)]],H := [.cells [.own 1,.map 2,.own 3,.int .i64 o0_3,.own 4,.int .i64 o0_5,.bool o0_6],.arr .str o1,.mp .i64 .str o2,.arr (.st (.pair (.int .i64) .str)) o3,.arr (.int .i64) o4],blk := 651264 }
def decPq9_n2 (s : St) : Option {x : Iq9_n2 // s = Sq9_n2 x} := match s with
  | { env := [(7,.int .i64 t7),(34,.bool t34)],stk := [[(0,.ptr 0 0),(2,.map 2)]],H := [.cells [.own 1,.map 2,.own 3,.int .i64 o0_3,.own 4,.int .i64 o0_5,.bool o0_6],.arr .str o1,.mp .i64 .str o2,.arr (.st (.pair (.int .i64) .str)) o3,.arr (.int .i64) o4],blk := 651264 } => some ⟨(t7,t34,o0_3,o0_5,o0_6,o1,o2,o3,o4),rfl⟩
  | _ => none
def decq9_n2 (s : St) : Option Iq9_n2 := pk (decPq9_n2 s)
theorem decq9_n2_ok (s : St) (x : Iq9_n2) (h : decq9_n2 s = some x) : s = Sq9_n2 x := pk_ok (o := decPq9_n2 s) h
def outq9_n2 : Iq9_n2 → (Ex → St → Ans) → Yq9_n2 → Ans := fun (t7,t34,o0_3,o0_5,o0_6,o1,o2,o3,o4) K => fun t7_y => K (Ex.norm) { env := [(7,.int .i64 t7_y)],stk := [[(0,.ptr 0 0),(2,.map 2)]],H := [.cells [.own 1,.map 2,.own 3,.int .i64 o0_3,.own 4,.int .i64 o0_5,.bool o0_6],.arr .str o1,.mp .i64 .str o2,.arr (.st (.pair (.int .i64) .str)) o3,.arr (.int .i64) o4],blk := 651264 }
def nodeq9_n2 {β : Type} : Iq9_n2 → (Yq9_n2 → Option β) → Option β := fun (t7,t34,o0_3,o0_5,o0_6,o1,o2,o3,o4) exit => (bif t34 then (exit ((12 : Int))) else (exit (t7)))
def nodeDq9_n2 (i : Iq9_n2) : Option Yq9_n2 := nodeq9_n2 i some
theorem nodeq9_n2_nat (i : Iq9_n2) (k : Yq9_n2 → Ans) : nodeq9_n2 i k = bindO (nodeDq9_n2 i) k := by
  obtain ⟨t7,t34,o0_3,o0_5,o0_6,o1,o2,o3,o4⟩ := i
  simp only [nodeDq9_n2,nodeq9_n2,bindO_cond,bindO_assoc,bindO_none,bindO_pure,bindO_elim,bindO_unP,bindO_empty]
theorem nodeq9_n2_ok (i : Iq9_n2) (K : Ex → St → Ans) : codeI Tryz.tab envq9 noHint (codeD Tryz.tab envq9 noHint 0 64) 70 64 annLq9_n2 Lq9_n2 (weakP 5 (exk [7] [6] []) K) (Sq9_n2 i) = nodeq9_n2 i (outq9_n2 i K) := by kernel_rfl
theorem GNq9_n2_ok : CSum Tryz.prog 64 Lq9_n2 (sumN decq9_n2 nodeDq9_n2 outq9_n2) := csum_node mixed tabOk envq9Ok 5 (exk [7] [6] []) annLq9_n2_ok decq9_n2_ok nodeq9_n2_ok nodeq9_n2_nat
noncomputable def Gq9_n2 : (Ex → St → Ans) → St → Ans := (sumN decq9_n2 nodeDq9_n2 outq9_n2)
theorem Gq9_n2_ok : CSum Tryz.prog 64 Lq9_n2 Gq9_n2 := GNq9_n2_ok
noncomputable def Lq9_n1 : Code := codeAt [1,1,1,0,0,1,0,0,1] bq9
noncomputable def annLq9_n1 : Ann := .none
theorem annLq9_n1_ok : AnnOk Tryz.prog 64 Lq9_n1 annLq9_n1 := (annOk_none _ _ _)
abbrev Iq9_n1 := (Int) × (Bool) × (Int) × (Int) × (Bool) × (List (List UInt8)) × (List (Int × List UInt8)) × (List (Int × List UInt8)) × (List Int)
abbrev Yq9_n1 := (Int)
def Sq9_n1 : Iq9_n1 → St := fun (t7,t27,o0_3,o0_5,o0_6,o1,o2,o3,o4) => { env := [(7,.int .i64 t7),(27,.bool t27)],stk := [[(0,.ptr 0 0),(2,.map 2)]],H := [.cells [.own 1,.map 2,.own 3,.int .i64 o0_3,.own 4,.int .i64 o0_5,.bool o0_6],.arr .str o1,.mp .i64 .str o2,.arr (.st (.pair (.int .i64) .str)) o3,.arr (.int .i64) o4],blk := 651264 }
def decPq9_n1 (s : St) : Option {x : Iq9_n1 // s = Sq9_n1 x} := match s with
  | { env := [(7,.int .i64 t7),(27,.bool t27)],stk := [[(0,.ptr 0 0),(2,.map 2)]],H := [.cells [.own 1,.map 2,.own 3,.int .i64 o0_3,.own 4,.int .i64 o0_5,.bool o0_6],.arr .str o1,.mp .i64 .str o2,.arr (.st (.pair (.int .i64) .str)) o3,.arr (.int .i64) o4],blk := 651264 } => some ⟨(t7,t27,o0_3,o0_5,o0_6,o1,o2,o3,o4),rfl⟩
  | _ => none
def decq9_n1 (s : St) : Option Iq9_n1 := pk (decPq9_n1 s)
theorem decq9_n1_ok (s : St) (x : Iq9_n1) (h : decq9_n1 s = some x) : s = Sq9_n1 x := pk_ok (o := decPq9_n1 s) h
def outq9_n1 : Iq9_n1 → (Ex → St → Ans) → Yq9_n1 → Ans := fun (t7,t27,o0_3,o0_5,o0_6,o1,o2,o3,o4) K => fun t7_y => K (Ex.norm) { env := [(7,.int .i64 t7_y)],stk := [[(0,.ptr 0 0),(2,.map 2)]],H := [.cells [.own 1,.map 2,.own 3,.int .i64 o0_3,.own 4,.int .i64 o0_5,.bool o0_6],.arr .str o1,.mp .i64 .str o2,.arr (.st (.pair (.int .i64) .str)) o3,.arr (.int .i64) o4],blk := 651264 }
def nodeq9_n1 {β : Type} : Iq9_n1 → (Yq9_n1 → Option β) → Option β := fun (t7,t27,o0_3,o0_5,o0_6,o1,o2,o3,o4) exit => (bif t27 then (exit ((3 : Int))) else (exit (t7)))
def nodeDq9_n1 (i : Iq9_n1) : Option Yq9_n1 := nodeq9_n1 i some
theorem nodeq9_n1_nat (i : Iq9_n1) (k : Yq9_n1 → Ans) : nodeq9_n1 i k = bindO (nodeDq9_n1 i) k := by
  obtain ⟨t7,t27,o0_3,o0_5,o0_6,o1,o2,o3,o4⟩ := i
  simp only [nodeDq9_n1,nodeq9_n1,bindO_cond,bindO_assoc,bindO_none,bindO_pure,bindO_elim,bindO_unP,bindO_empty]
theorem nodeq9_n1_ok (i : Iq9_n1) (K : Ex → St → Ans) : codeI Tryz.tab envq9 noHint (codeD Tryz.tab envq9 noHint 0 64) 70 64 annLq9_n1 Lq9_n1 (weakP 5 (exk [7] [6] []) K) (Sq9_n1 i) = nodeq9_n1 i (outq9_n1 i K) := by kernel_rfl
theorem GNq9_n1_ok : CSum Tryz.prog 64 Lq9_n1 (sumN decq9_n1 nodeDq9_n1 outq9_n1) := csum_node mixed tabOk envq9Ok 5 (exk [7] [6] []) annLq9_n1_ok decq9_n1_ok nodeq9_n1_ok nodeq9_n1_nat
noncomputable def Gq9_n1 : (Ex → St → Ans) → St → Ans := (sumN decq9_n1 nodeDq9_n1 outq9_n1)
theorem Gq9_n1_ok : CSum Tryz.prog 64 Lq9_n1 Gq9_n1 := GNq9_n1_ok
noncomputable def Lq9_n0 : Code := codeAt [1,1,0,0] bq9
noncomputable def annLq9_n0 : Ann := .none
theorem annLq9_n0_ok : AnnOk Tryz.prog 64 Lq9_n0 annLq9_n0 := (annOk_none _ _ _)
abbrev Iq9_n0 := (Int) × (List UInt8) × (Int) × (Bool) × (Int) × (Int) × (Bool) × (List (List UInt8)) × (List (Int × List UInt8)) × (List (Int × List UInt8)) × (List Int)
abbrev Yq9_n0 := (Bool)
def Sq9_n0 : Iq9_n0 → St := fun (t1,t2,t7,t8,o0_3,o0_5,o0_6,o1,o2,o3,o4) => { env := [(0,.ptr 0 0),(1,.int .i64 t1),(2,.str t2),(7,.int .i64 t7),(8,.bool t8)],stk := [[(0,.ptr 0 0),(2,.map 2)]],H := [.cells [.own 1,.map 2,.own 3,.int .i64 o0_3,.own 4,.int .i64 o0_5,.bool o0_6],.arr .str o1,.mp .i64 .str o2,.arr (.st (.pair (.int .i64) .str)) o3,.arr (.int .i64) o4],blk := 651264 }
def decPq9_n0 (s : St) : Option {x : Iq9_n0 // s = Sq9_n0 x} := match s with
  | { env := [(0,.ptr 0 0),(1,.int .i64 t1),(2,.str t2),(7,.int .i64 t7),(8,.bool t8)],stk := [[(0,.ptr 0 0),(2,.map 2)]],H := [.cells [.own 1,.map 2,.own 3,.int .i64 o0_3,.own 4,.int .i64 o0_5,.bool o0_6],.arr .str o1,.mp .i64 .str o2,.arr (.st (.pair (.int .i64) .str)) o3,.arr (.int .i64) o4],blk := 651264 } => some ⟨(t1,t2,t7,t8,o0_3,o0_5,o0_6,o1,o2,o3,o4),rfl⟩
  | _ => none
def decq9_n0 (s : St) : Option Iq9_n0 := pk (decPq9_n0 s)
theorem decq9_n0_ok (s : St) (x : Iq9_n0) (h : decq9_n0 s = some x) : s = Sq9_n0 x := pk_ok (o := decPq9_n0 s) h
def outq9_n0 : Iq9_n0 → (Ex → St → Ans) → Yq9_n0 → Ans := fun (t1,t2,t7,t8,o0_3,o0_5,o0_6,o1,o2,o3,o4) K => fun t19_y => K (Ex.norm) { env := [(0,.ptr 0 0),(1,.int .i64 t1),(2,.str t2),(7,.int .i64 t7),(8,.bool t8),(19,.bool t19_y)],stk := [[(0,.ptr 0 0),(2,.map 2)]],H := [.cells [.own 1,.map 2,.own 3,.int .i64 o0_3,.own 4,.int .i64 o0_5,.bool o0_6],.arr .str o1,.mp .i64 .str o2,.arr (.st (.pair (.int .i64) .str)) o3,.arr (.int .i64) o4],blk := 651264 }
def nodeq9_n0 {β : Type} : Iq9_n0 → (Yq9_n0 → Option β) → Option β := fun (t1,t2,t7,t8,o0_3,o0_5,o0_6,o1,o2,o3,o4) exit => (bif t7 != (0 : Int) then (exit (!t8)) else (exit (false)))
def nodeDq9_n0 (i : Iq9_n0) : Option Yq9_n0 := nodeq9_n0 i some
theorem nodeq9_n0_nat (i : Iq9_n0) (k : Yq9_n0 → Ans) : nodeq9_n0 i k = bindO (nodeDq9_n0 i) k := by
  obtain ⟨t1,t2,t7,t8,o0_3,o0_5,o0_6,o1,o2,o3,o4⟩ := i
  simp only [nodeDq9_n0,nodeq9_n0,bindO_cond,bindO_assoc,bindO_none,bindO_pure,bindO_elim,bindO_unP,bindO_empty]
theorem nodeq9_n0_ok (i : Iq9_n0) (K : Ex → St → Ans) : codeI Tryz.tab envq9 noHint (codeD Tryz.tab envq9 noHint 0 64) 70 64 annLq9_n0 Lq9_n0 (weakP 5 (exk [0,1,2,7,8,19] [6] []) K) (Sq9_n0 i) = nodeq9_n0 i (outq9_n0 i K) := by kernel_rfl
theorem GNq9_n0_ok : CSum Tryz.prog 64 Lq9_n0 (sumN decq9_n0 nodeDq9_n0 outq9_n0) := csum_node mixed tabOk envq9Ok 5 (exk [0,1,2,7,8,19] [6] []) annLq9_n0_ok decq9_n0_ok nodeq9_n0_ok nodeq9_n0_nat
noncomputable def Gq9_n0 : (Ex → St → Ans) → St → Ans := (sumN decq9_n0 nodeDq9_n0 outq9_n0)
theorem Gq9_n0_ok : CSum Tryz.prog 64 Lq9_n0 Gq9_n0 := GNq9_n0_ok
noncomputable def annq9 : Ann := (.seq .none (.seq .none (.seq (.seq (.cut 5 [0,1,2,7,8] Gq9_n0) .none) (.seq (.block (.seq .none (.cond (.seq (.seq .none (.cut 5 [7,27] Gq9_n1)) .none) (.seq .none (.cond (.seq (.seq .none (.cut 5 [7,34] Gq9_n2)) .none) .none))))) (.seq (.seq .none (.cut 5 [0,1,2,7,40] Gq9_n3)) .none)))))
theorem annq9_ok : AnnOk Tryz.prog 64 bq9 annq9 := ⟨(annOk_none _ _ _),⟨(annOk_none _ _ _),⟨⟨Gq9_n0_ok,(annOk_none _ _ _)⟩,⟨⟨(annOk_none _ _ _),⟨⟨⟨(annOk_none _ _ _),Gq9_n1_ok⟩,(annOk_none _ _ _)⟩,⟨(annOk_none _ _ _),⟨⟨⟨(annOk_none _ _ _),Gq9_n2_ok⟩,(annOk_none _ _ _)⟩,(annOk_none _ _ _)⟩⟩⟩⟩,⟨⟨(annOk_none _ _ _),Gq9_n3_ok⟩,(annOk_none _ _ _)⟩⟩⟩⟩⟩
abbrev Aq9 := (Int) × (List UInt8) × (Int) × (Int) × (Bool) × (List (List UInt8)) × (List (Int × List UInt8)) × (List (Int × List UInt8)) × (List Int)
abbrev Yq9 := (Int) × (Int) × (Bool) × (List (Int × List UInt8)) × (List (Int × List UInt8))
def fnq9 {β : Type} : Aq9 → (Yq9 → Option β) → Option β := fun (a1,a2,o0_3,o0_5,o0_6,o1,o2,o3,o4) exit => (bindO (fnDq10 (o0_3,o0_5,o0_6,o1,o2,o3,o4)) (unP fun r_0 => unP fun r_1 => unP fun o0_3_2 o0_6_2 => (bindO (nodeDq9_n0 (a1,a2,r_0,r_1,o0_3_2,o0_5,o0_6_2,o1,o2,o3,o4)) fun t19 => (bif t19 then (exit (r_0,o0_3_2,o0_6_2,o2,o3)) else (bindO (fnDq12 (a1,o0_3_2,o0_5,o0_6_2,o1,o2,o3,o4)) fun r => (bif !r then (bindO (nodeDq9_n1 (r_0,!r_1,o0_3_2,o0_5,o0_6_2,o1,o2,o3,o4)) fun t7 => (exit (t7,o0_3_2,o0_6_2,o2,o3))) else (bif (↑(List.length a2) : Int) != (64 : Int) then (bindO (nodeDq9_n2 (r_0,!r_1,o0_3_2,o0_5,o0_6_2,o1,o2,o3,o4)) fun t7 => (exit (t7,o0_3_2,o0_6_2,o2,o3))) else (bindO (nodeDq9_n3 (a1,a2,r_0,o0_3_2,o0_5,o0_6_2,o1,o2,o3,o4)) fun _ => (bif Nat.ble ((List.length o3 + List.length [(a1,a2)]) * (24 : Nat)) (140737488355328 : Nat) then (exit (r_0,o0_3_2,o0_6_2,mput a1 a2 o2,o3 ++ [(a1,a2)])) else none)))))))))
def fnDq9 (a : Aq9) : Option Yq9 := fnq9 a some
theorem fnq9_nat (a : Aq9) (k : Yq9 → Ans) : fnq9 a k = bindO (fnDq9 a) k := by
  obtain ⟨a1,a2,o0_3,o0_5,o0_6,o1,o2,o3,o4⟩ := a
  simp only [fnDq9,fnq9,bindO_cond,bindO_assoc,bindO_none,bindO_pure,bindO_elim,bindO_unP,bindO_empty]
def argsq9 : Aq9 → List AV × List AE.Obj := fun (a1,a2,o0_3,o0_5,o0_6,o1,o2,o3,o4) => ([.ptr 0 0,.int .i64 a1,.str a2],[.cells [.own 1,.map 2,.own 3,.int .i64 o0_3,.own 4,.int .i64 o0_5,.bool o0_6],.arr .str o1,.mp .i64 .str o2,.arr (.st (.pair (.int .i64) .str)) o3,.arr (.int .i64) o4])
def decPAq9 (l : List AV) (H : List AE.Obj) : Option {a : Aq9 // (l,H) = argsq9 a} := match l,H with
  | [.ptr 0 0,.int .i64 a1,.str a2],[.cells [.own 1,.map 2,.own 3,.int .i64 o0_3,.own 4,.int .i64 o0_5,.bool o0_6],.arr .str o1,.mp .i64 .str o2,.arr (.st (.pair (.int .i64) .str)) o3,.arr (.int .i64) o4] => some ⟨(a1,a2,o0_3,o0_5,o0_6,o1,o2,o3,o4),rfl⟩
  | _,_ => none
def decAq9 (l : List AV) (H : List AE.Obj) : Option Aq9 := pk (decPAq9 l H)
theorem decAq9_ok (l : List AV) (H : List AE.Obj) (a : Aq9) (h : decAq9 l H = some a) : (l,H) = argsq9 a := pk_ok (o := decPAq9 l H) h
def outq9 : Aq9 → (AV → List AE.Obj → Ans) → Yq9 → Ans := fun (a1,a2,o0_3,o0_5,o0_6,o1,o2,o3,o4) K => unP fun r_y => unP fun o0_3_y => unP fun o0_6_y => unP fun o2_y o3_y => K (.int .i64 r_y) [.cells [.own 1,.map 2,.own 3,.int .i64 o0_3_y,.own 4,.int .i64 o0_5,.bool o0_6_y],.arr .str o1,.mp .i64 .str o2_y,.arr (.st (.pair (.int .i64) .str)) o3_y,.arr (.int .i64) o4]
theorem fnq9_ok (a : Aq9) (K : AV → List AE.Obj → Ans) : fnE Tryz.tab envq9 noHint 0 70 159 Tryz.f159.ntmps Tryz.f159.results.toList annq9 bq9 (argsq9 a).1 (argsq9 a).2 K = fnq9 a (outq9 a K) := by kernel_rfl
def vFq9 (a : Aq9) (K : AV → List AE.Obj → Ans) : Ans := bindO (fnDq9 a) fun y => outq9 a K y
def Fq9 : List AV → List AE.Obj → (AV → List AE.Obj → Ans) → Ans := fun l H K => bindO (decAq9 l H) fun a => vFq9 a K
theorem Fq9_ok : FuncOk Tryz.prog 159 Fq9 := func_mkD (hint := noHint) (d := 0) (n := 70) mixed tabOk envq9Ok Tryz.func159 (bodySome (by kernel_rfl)) (by decide +kernel) annq9_ok decAq9_ok fnq9_ok fnq9_nat
--@ region_Region_Write
noncomputable def envq61 : Env := [(171,.func Fq60),(159,.func Fq9)]
theorem envq61Ok : EnvOk Tryz.prog envq61 := EnvOk.cons Fq60_ok (EnvOk.cons Fq9_ok (EnvOk.nil))
noncomputable def bq61 : Code := Tryz.f106.body.getD .skip
noncomputable def Lq61_n0 : Code := codeAt [1,1,0,1,0,0] bq61
noncomputable def annLq61_n0 : Ann := .at 6 [0,8,19,20,21] (.loop .none)
theorem annLq61_n0_ok : AnnOk Tryz.prog 39 (.loop Lq61_n0) annLq61_n0 := annOk_at (annOk_none _ _ _)
abbrev Iq61_n0 := (Int) × (Int) × (Int) × (Int) × (Int) × (List (List UInt8)) × (List Int) × (List (Int × List UInt8))
abbrev Yq61_n0 := ((Int) × (Int) × (Bool) × (List (Int × List UInt8)) × (List (Int × List UInt8))) ⊕ ((Int) × (Bool) × (List (Int × List UInt8)) × (List (Int × List UInt8)))
abbrev Vq61_n0 := (Int) × (Int) × (Bool) × (List (Int × List UInt8)) × (List (Int × List UInt8))
def Sq61_n0 : Iq61_n0 → Vq61_n0 → St := fun (t8,t20,o0_1,o0_2,o1_5,o2,o5,o6) (t21,o1_3,o1_6,o3,o4) => { env := [(0,.ptr 0 0),(8,.int .i64 t8),(19,.own 6),(20,.int .i64 t20),(21,.int .i64 t21)],stk := [[(0,.ptr 0 0),(1,.ptr 1 0),(3,.map 3)]],H := [.cells [.ptr 1 0,.int .i64 o0_1,.int .i64 o0_2],.cells [.own 2,.map 3,.own 4,.int .i64 o1_3,.own 5,.int .i64 o1_5,.bool o1_6],.arr .str o2,.mp .i64 .str o3,.arr (.st (.pair (.int .i64) .str)) o4,.arr (.int .i64) o5,.arr (.st (.pair (.int .i64) .str)) o6],blk := 434176 }
def decPq61_n0 (s : St) : Option {x : Iq61_n0 × Vq61_n0 // s = Sq61_n0 x.1 x.2} := match s with
  | { env := [(0,.ptr 0 0),(8,.int .i64 t8),(19,.own 6),(20,.int .i64 t20),(21,.int .i64 t21)],stk := [[(0,.ptr 0 0),(1,.ptr 1 0),(3,.map 3)]],H := [.cells [.ptr 1 0,.int .i64 o0_1,.int .i64 o0_2],.cells [.own 2,.map 3,.own 4,.int .i64 o1_3,.own 5,.int .i64 o1_5,.bool o1_6],.arr .str o2,.mp .i64 .str o3,.arr (.st (.pair (.int .i64) .str)) o4,.arr (.int .i64) o5,.arr (.st (.pair (.int .i64) .str)) o6],blk := 434176 } => some ⟨((t8,t20,o0_1,o0_2,o1_5,o2,o5,o6),(t21,o1_3,o1_6,o3,o4)),rfl⟩
  | _ => none
def decq61_n0 (s : St) : Option (Iq61_n0 × Vq61_n0) := pk (decPq61_n0 s)
theorem decq61_n0_ok (s : St) (x : Iq61_n0 × Vq61_n0) (h : decq61_n0 s = some x) : s = Sq61_n0 x.1 x.2 := pk_ok (o := decPq61_n0 s) h
def outq61_n0 : Iq61_n0 → (Ex → St → Ans) → Yq61_n0 → Ans := fun (t8,t20,o0_1,o0_2,o1_5,o2,o5,o6) K => (Sum.elim (unP fun t6_y => unP fun o1_3_y => unP fun o1_6_y => unP fun o3_y o4_y => K (Ex.ret) { env := [(6,.int .i64 t6_y)],stk := [[(0,.ptr 0 0),(1,.ptr 1 0),(3,.map 3)]],H := [.cells [.ptr 1 0,.int .i64 o0_1,.int .i64 o0_2],.cells [.own 2,.map 3,.own 4,.int .i64 o1_3_y,.own 5,.int .i64 o1_5,.bool o1_6_y],.arr .str o2,.mp .i64 .str o3_y,.arr (.st (.pair (.int .i64) .str)) o4_y,.arr (.int .i64) o5],blk := 434177 }) (unP fun o1_3_y => unP fun o1_6_y => unP fun o3_y o4_y => K (Ex.exit 0) { env := [(8,.int .i64 t8)],stk := [[(0,.ptr 0 0),(1,.ptr 1 0),(3,.map 3)]],H := [.cells [.ptr 1 0,.int .i64 o0_1,.int .i64 o0_2],.cells [.own 2,.map 3,.own 4,.int .i64 o1_3_y,.own 5,.int .i64 o1_5,.bool o1_6_y],.arr .str o2,.mp .i64 .str o3_y,.arr (.st (.pair (.int .i64) .str)) o4_y,.arr (.int .i64) o5],blk := 434176 }))
def stepq61_n0 {β : Type} : Iq61_n0 → Vq61_n0 → (Vq61_n0 → Option β) → (Yq61_n0 → Option β) → Option β := fun (t8,t20,o0_1,o0_2,o1_5,o2,o5,o6) (t21,o1_3,o1_6,o3,o4) next exit => (bif decide (t21 < t20) then (bif inR t21 (List.length o6) then (bindO (o6[Int.toNat t21]?) fun x => (bindO (fnDq9 (x.fst,x.snd,o1_3,o1_5,o1_6,o2,o3,o4,o5)) (unP fun r => unP fun o0_3 => unP fun o0_6 => unP fun o2_2 o3_2 => (bif r != (0 : Int) then (exit (Sum.inl (r,o0_3,o0_6,o2_2,o3_2))) else (next (IntKind.wrap .i64 (t21 + (1 : Int)),o0_3,o0_6,o2_2,o3_2)))))) else none) else (exit (Sum.inr (o1_3,o1_6,o3,o4))))
def stepDq61_n0 (i : Iq61_n0) (v : Vq61_n0) : Option (Vq61_n0 ⊕ Yq61_n0) := stepq61_n0 i v (fun v => some (.inl v)) (fun y => some (.inr y))
theorem stepq61_n0_nat (i : Iq61_n0) (v : Vq61_n0) (next : Vq61_n0 → Ans) (exit : Yq61_n0 → Ans) : stepq61_n0 i v next exit = bindO (stepDq61_n0 i v) (Sum.elim next exit) := by
  obtain ⟨t8,t20,o0_1,o0_2,o1_5,o2,o5,o6⟩ := i
  obtain ⟨t21,o1_3,o1_6,o3,o4⟩ := v
  simp only [stepDq61_n0,stepq61_n0,bindO_cond,bindO_assoc,bindO_none,bindO_pure,bindO_elim,bindO_unP,bindO_empty,Sum.elim_inl,Sum.elim_inr]
theorem stepq61_n0_ok (n : Nat) (i : Iq61_n0) (v : Vq61_n0) (K : Ex → St → Ans) : codeI Tryz.tab envq61 noHint (codeD Tryz.tab envq61 noHint 0 64) (n+1) 39 annLq61_n0 (.loop Lq61_n0) (weakP 6 (exk [8] [6] [(0,[8])]) K) (Sq61_n0 i v) = stepq61_n0 i v (fun v' => codeI Tryz.tab envq61 noHint (codeD Tryz.tab envq61 noHint 0 64) n 39 annLq61_n0 (.loop Lq61_n0) (weakP 6 (exk [8] [6] [(0,[8])]) K) (Sq61_n0 i v')) (fun y => outq61_n0 i K y) := by kernel_rfl
theorem GNq61_n0_ok : CSum Tryz.prog 39 (.loop Lq61_n0) (sumL decq61_n0 stepDq61_n0 outq61_n0) := csum_loop mixed tabOk envq61Ok 6 (exk [8] [6] [(0,[8])]) annLq61_n0_ok decq61_n0_ok stepq61_n0_ok stepq61_n0_nat
noncomputable def Gq61_n0 : (Ex → St → Ans) → St → Ans := (sumL decq61_n0 stepDq61_n0 outq61_n0)
theorem Gq61_n0_ok : CSum Tryz.prog 39 (.loop Lq61_n0) Gq61_n0 := GNq61_n0_ok
noncomputable def annq61 : Ann := (.seq .none (.seq .none (.seq (.seq .none (.block (.cut 6 [0,8,19,20,21] Gq61_n0))) .none)))
theorem annq61_ok : AnnOk Tryz.prog 39 bq61 annq61 := ⟨(annOk_none _ _ _),⟨(annOk_none _ _ _),⟨⟨(annOk_none _ _ _),Gq61_n0_ok⟩,(annOk_none _ _ _)⟩⟩⟩
abbrev Aq61 := (Int) × (List UInt8) × (Int) × (Int) × (Int) × (Int) × (Bool) × (List (List UInt8)) × (List (Int × List UInt8)) × (List (Int × List UInt8)) × (List Int)
abbrev Yq61 := (Int) × (Int) × (Bool) × (List (Int × List UInt8)) × (List (Int × List UInt8))
def fnq61 {β : Type} : Aq61 → (Yq61 → Option β) → Option β := fun (a1,a2,o0_1,o0_2,o1_3,o1_5,o1_6,o2,o3,o4,o5) exit => (bindO (fnDq60 (a1,a2,o0_1,o0_2,o1_3,o1_5,o1_6,o2,o3,o4,o5)) (unP fun r_1 o6 => (bindO (loopD (stepDq61_n0 (r_1,(↑(List.length o6) : Int),o0_1,o0_2,o1_5,o2,o5,o6)) FUEL ((0 : Int),o1_3,o1_6,o3,o4)) (Sum.elim (unP fun t6 => unP fun o1_3_2 => unP fun o1_6_2 => unP fun o3_2 o4_2 => (exit (t6,o1_3_2,o1_6_2,o3_2,o4_2))) (unP fun o1_3_2 => unP fun o1_6_2 => unP fun o3_2 o4_2 => (exit (r_1,o1_3_2,o1_6_2,o3_2,o4_2)))))))
def fnDq61 (a : Aq61) : Option Yq61 := fnq61 a some
theorem fnq61_nat (a : Aq61) (k : Yq61 → Ans) : fnq61 a k = bindO (fnDq61 a) k := by
  obtain ⟨a1,a2,o0_1,o0_2,o1_3,o1_5,o1_6,o2,o3,o4,o5⟩ := a
  simp only [fnDq61,fnq61,bindO_cond,bindO_assoc,bindO_none,bindO_pure,bindO_elim,bindO_unP,bindO_empty]
def argsq61 : Aq61 → List AV × List AE.Obj := fun (a1,a2,o0_1,o0_2,o1_3,o1_5,o1_6,o2,o3,o4,o5) => ([.ptr 0 0,.int .i64 a1,.str a2],[.cells [.ptr 1 0,.int .i64 o0_1,.int .i64 o0_2],.cells [.own 2,.map 3,.own 4,.int .i64 o1_3,.own 5,.int .i64 o1_5,.bool o1_6],.arr .str o2,.mp .i64 .str o3,.arr (.st (.pair (.int .i64) .str)) o4,.arr (.int .i64) o5])
def decPAq61 (l : List AV) (H : List AE.Obj) : Option {a : Aq61 // (l,H) = argsq61 a} := match l,H with
  | [.ptr 0 0,.int .i64 a1,.str a2],[.cells [.ptr 1 0,.int .i64 o0_1,.int .i64 o0_2],.cells [.own 2,.map 3,.own 4,.int .i64 o1_3,.own 5,.int .i64 o1_5,.bool o1_6],.arr .str o2,.mp .i64 .str o3,.arr (.st (.pair (.int .i64) .str)) o4,.arr (.int .i64) o5] => some ⟨(a1,a2,o0_1,o0_2,o1_3,o1_5,o1_6,o2,o3,o4,o5),rfl⟩
  | _,_ => none
def decAq61 (l : List AV) (H : List AE.Obj) : Option Aq61 := pk (decPAq61 l H)
theorem decAq61_ok (l : List AV) (H : List AE.Obj) (a : Aq61) (h : decAq61 l H = some a) : (l,H) = argsq61 a := pk_ok (o := decPAq61 l H) h
def outq61 : Aq61 → (AV → List AE.Obj → Ans) → Yq61 → Ans := fun (a1,a2,o0_1,o0_2,o1_3,o1_5,o1_6,o2,o3,o4,o5) K => unP fun r_y => unP fun o1_3_y => unP fun o1_6_y => unP fun o3_y o4_y => K (.int .i64 r_y) [.cells [.ptr 1 0,.int .i64 o0_1,.int .i64 o0_2],.cells [.own 2,.map 3,.own 4,.int .i64 o1_3_y,.own 5,.int .i64 o1_5,.bool o1_6_y],.arr .str o2,.mp .i64 .str o3_y,.arr (.st (.pair (.int .i64) .str)) o4_y,.arr (.int .i64) o5]
theorem fnq61_ok (a : Aq61) (K : AV → List AE.Obj → Ans) : fnE Tryz.tab envq61 noHint 0 70 106 Tryz.f106.ntmps Tryz.f106.results.toList annq61 bq61 (argsq61 a).1 (argsq61 a).2 K = fnq61 a (outq61 a K) := by kernel_rfl
def vFq61 (a : Aq61) (K : AV → List AE.Obj → Ans) : Ans := bindO (fnDq61 a) fun y => outq61 a K y
def Fq61 : List AV → List AE.Obj → (AV → List AE.Obj → Ans) → Ans := fun l H K => bindO (decAq61 l H) fun a => vFq61 a K
theorem Fq61_ok : FuncOk Tryz.prog 106 Fq61 := func_mkD (hint := noHint) (d := 0) (n := 70) mixed tabOk envq61Ok Tryz.func106 (bodySome (by kernel_rfl)) (by decide +kernel) annq61_ok decAq61_ok fnq61_ok fnq61_nat
--@ region_Region_Many
noncomputable def envq57 : Env := []
theorem envq57Ok : EnvOk Tryz.prog envq57 := EnvOk.nil
noncomputable def bq57 : Code := Tryz.f96.body.getD .skip
noncomputable def annq57 : Ann := .none
theorem annq57_ok : AnnOk Tryz.prog 9 bq57 annq57 := (annOk_none _ _ _)
abbrev Aq57 := (Int) × (Int) × (Int) × (Int) × (Bool) × (List (List UInt8)) × (List (Int × List UInt8)) × (List (Int × List UInt8)) × (List Int)
abbrev Yq57 := Unit
def fnq57 {β : Type} : Aq57 → (Yq57 → Option β) → Option β := fun (o0_1,o0_2,o1_3,o1_5,o1_6,o2,o3,o4,o5) exit => (exit ())
def fnDq57 (a : Aq57) : Option Yq57 := fnq57 a some
theorem fnq57_nat (a : Aq57) (k : Yq57 → Ans) : fnq57 a k = bindO (fnDq57 a) k := by
  obtain ⟨o0_1,o0_2,o1_3,o1_5,o1_6,o2,o3,o4,o5⟩ := a
  simp only [fnDq57,fnq57,bindO_cond,bindO_assoc,bindO_none,bindO_pure,bindO_elim,bindO_unP,bindO_empty]
def argsq57 : Aq57 → List AV × List AE.Obj := fun (o0_1,o0_2,o1_3,o1_5,o1_6,o2,o3,o4,o5) => ([.ptr 0 0],[.cells [.ptr 1 0,.int .i64 o0_1,.int .i64 o0_2],.cells [.own 2,.map 3,.own 4,.int .i64 o1_3,.own 5,.int .i64 o1_5,.bool o1_6],.arr .str o2,.mp .i64 .str o3,.arr (.st (.pair (.int .i64) .str)) o4,.arr (.int .i64) o5])
def decPAq57 (l : List AV) (H : List AE.Obj) : Option {a : Aq57 // (l,H) = argsq57 a} := match l,H with
  | [.ptr 0 0],[.cells [.ptr 1 0,.int .i64 o0_1,.int .i64 o0_2],.cells [.own 2,.map 3,.own 4,.int .i64 o1_3,.own 5,.int .i64 o1_5,.bool o1_6],.arr .str o2,.mp .i64 .str o3,.arr (.st (.pair (.int .i64) .str)) o4,.arr (.int .i64) o5] => some ⟨(o0_1,o0_2,o1_3,o1_5,o1_6,o2,o3,o4,o5),rfl⟩
  | _,_ => none
def decAq57 (l : List AV) (H : List AE.Obj) : Option Aq57 := pk (decPAq57 l H)
theorem decAq57_ok (l : List AV) (H : List AE.Obj) (a : Aq57) (h : decAq57 l H = some a) : (l,H) = argsq57 a := pk_ok (o := decPAq57 l H) h
def outq57 : Aq57 → (AV → List AE.Obj → Ans) → Yq57 → Ans := fun (o0_1,o0_2,o1_3,o1_5,o1_6,o2,o3,o4,o5) K => fun _ => K (.int .i64 o0_2) [.cells [.ptr 1 0,.int .i64 o0_1,.int .i64 o0_2],.cells [.own 2,.map 3,.own 4,.int .i64 o1_3,.own 5,.int .i64 o1_5,.bool o1_6],.arr .str o2,.mp .i64 .str o3,.arr (.st (.pair (.int .i64) .str)) o4,.arr (.int .i64) o5]
theorem fnq57_ok (a : Aq57) (K : AV → List AE.Obj → Ans) : fnE Tryz.tab envq57 noHint 0 70 96 Tryz.f96.ntmps Tryz.f96.results.toList annq57 bq57 (argsq57 a).1 (argsq57 a).2 K = fnq57 a (outq57 a K) := by kernel_rfl
def vFq57 (a : Aq57) (K : AV → List AE.Obj → Ans) : Ans := bindO (fnDq57 a) fun y => outq57 a K y
def Fq57 : List AV → List AE.Obj → (AV → List AE.Obj → Ans) → Ans := fun l H K => bindO (decAq57 l H) fun a => vFq57 a K
theorem Fq57_ok : FuncOk Tryz.prog 96 Fq57 := func_mkD (hint := noHint) (d := 0) (n := 70) mixed tabOk envq57Ok Tryz.func96 (bodySome (by kernel_rfl)) (by decide +kernel) annq57_ok decAq57_ok fnq57_ok fnq57_nat
--@ loghead_within
noncomputable def envq37 : Env := []
theorem envq37Ok : EnvOk Tryz.prog envq37 := EnvOk.nil
noncomputable def bq37 : Code := Tryz.f238.body.getD .skip
noncomputable def Lq37_n0 : Code := codeAt [1,0] bq37
noncomputable def annLq37_n0 : Ann := .none
theorem annLq37_n0_ok : AnnOk Tryz.prog 12 Lq37_n0 annLq37_n0 := (annOk_none _ _ _)
abbrev Iq37_n0 := (Int) × (Int)
abbrev Yq37_n0 := (Bool)
def Sq37_n0 : Iq37_n0 → St := fun (t0,t1) => { env := [(0,.int .i64 t0),(1,.int .i64 t1)],stk := [[]],H := [],blk := 974848 }
def decPq37_n0 (s : St) : Option {x : Iq37_n0 // s = Sq37_n0 x} := match s with
  | { env := [(0,.int .i64 t0),(1,.int .i64 t1)],stk := [[]],H := [],blk := 974848 } => some ⟨(t0,t1),rfl⟩
  | _ => none
def decq37_n0 (s : St) : Option Iq37_n0 := pk (decPq37_n0 s)
theorem decq37_n0_ok (s : St) (x : Iq37_n0) (h : decq37_n0 s = some x) : s = Sq37_n0 x := pk_ok (o := decPq37_n0 s) h
def outq37_n0 : Iq37_n0 → (Ex → St → Ans) → Yq37_n0 → Ans := fun (t0,t1) K => fun t4_y => K (Ex.norm) { env := [(4,.bool t4_y)],stk := [[]],H := [],blk := 974848 }
def nodeq37_n0 {β : Type} : Iq37_n0 → (Yq37_n0 → Option β) → Option β := fun (t0,t1) exit => (bif decide (t0 ≥ (0 : Int)) then (exit (decide (t0 < t1))) else (exit (false)))
def nodeDq37_n0 (i : Iq37_n0) : Option Yq37_n0 := nodeq37_n0 i some
theorem nodeq37_n0_nat (i : Iq37_n0) (k : Yq37_n0 → Ans) : nodeq37_n0 i k = bindO (nodeDq37_n0 i) k := by
  obtain ⟨t0,t1⟩ := i
  simp only [nodeDq37_n0,nodeq37_n0,bindO_cond,bindO_assoc,bindO_none,bindO_pure,bindO_elim,bindO_unP,bindO_empty]
theorem nodeq37_n0_ok (i : Iq37_n0) (K : Ex → St → Ans) : codeI Tryz.tab envq37 noHint (codeD Tryz.tab envq37 noHint 0 64) 70 12 annLq37_n0 Lq37_n0 (weakP 0 (exk [4] [4] []) K) (Sq37_n0 i) = nodeq37_n0 i (outq37_n0 i K) := by kernel_rfl
theorem GNq37_n0_ok : CSum Tryz.prog 12 Lq37_n0 (sumN decq37_n0 nodeDq37_n0 outq37_n0) := csum_node mixed tabOk envq37Ok 0 (exk [4] [4] []) annLq37_n0_ok decq37_n0_ok nodeq37_n0_ok nodeq37_n0_nat
noncomputable def Gq37_n0 : (Ex → St → Ans) → St → Ans := (sumN decq37_n0 nodeDq37_n0 outq37_n0)
theorem Gq37_n0_ok : CSum Tryz.prog 12 Lq37_n0 Gq37_n0 := GNq37_n0_ok
noncomputable def annq37 : Ann := (.seq .none (.seq (.cut 0 [0,1] Gq37_n0) .none))
theorem annq37_ok : AnnOk Tryz.prog 12 bq37 annq37 := ⟨(annOk_none _ _ _),⟨Gq37_n0_ok,(annOk_none _ _ _)⟩⟩
abbrev Aq37 := (Int) × (Int)
abbrev Yq37 := (Bool)
def fnq37 {β : Type} : Aq37 → (Yq37 → Option β) → Option β := fun (a0,a1) exit => (bindO (nodeDq37_n0 (a0,a1)) fun t4 => (exit (t4)))
def fnDq37 (a : Aq37) : Option Yq37 := fnq37 a some
theorem fnq37_nat (a : Aq37) (k : Yq37 → Ans) : fnq37 a k = bindO (fnDq37 a) k := by
  obtain ⟨a0,a1⟩ := a
  simp only [fnDq37,fnq37,bindO_cond,bindO_assoc,bindO_none,bindO_pure,bindO_elim,bindO_unP,bindO_empty]
def argsq37 : Aq37 → List AV := fun (a0,a1) => [.int .i64 a0,.int .i64 a1]
def decPAq37 (l : List AV) : Option {a : Aq37 // l = argsq37 a} := match l with
  | [.int .i64 a0,.int .i64 a1] => some ⟨(a0,a1),rfl⟩
  | _ => none
def decAq37 (l : List AV) : Option Aq37 := pk (decPAq37 l)
theorem decAq37_ok (l : List AV) (a : Aq37) (h : decAq37 l = some a) : l = argsq37 a := pk_ok (o := decPAq37 l) h
def rendq37 : Aq37 → Yq37 → AV := fun (a0,a1) => fun r_y => .bool r_y
theorem rendq37_ok : ∀ (a : Aq37) (y : Yq37),(rendq37 a y).closed1 = true := by
  rintro ⟨a0,a1⟩ y <;> first | rfl | exact Empty.elim y
theorem fnq37_ok (a : Aq37) : fnE Tryz.tab envq37 noHint 0 70 238 Tryz.f238.ntmps Tryz.f238.results.toList annq37 bq37 (argsq37 a) [] (fun v _ => some (v,[])) = fnq37 a (fun y => some (rendq37 a y,[])) := by kernel_rfl
def vFq37 (a : Aq37) (K : AV → Ans) : Ans := bindO (fnDq37 a) fun y => K (rendq37 a y)
def Fq37 : List AV → (AV → Ans) → Ans := fun l K => bindO (decAq37 l) fun a => vFq37 a K
theorem Fq37_ok : PureOk Tryz.prog 238 Fq37 := pure_mkD (hint := noHint) (d := 0) (n := 70) mixed tabOk envq37Ok Tryz.func238 (bodySome (by kernel_rfl)) (by decide +kernel) annq37_ok decAq37_ok fnq37_ok fnq37_nat rendq37_ok
end Go.Proofs.R7

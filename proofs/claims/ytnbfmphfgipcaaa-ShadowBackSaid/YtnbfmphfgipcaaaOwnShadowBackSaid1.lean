/- What the functions that ShadowBackSaid reaches compute: part 1. -/
import Derived.Test.YtnbfmphfgipcaaaAe3
import Derived.Test.YtnbfmphfgipcaaaProg
import Derived.Test.YtnbfmphfgipcaaaChecked
import Derived.Eval
import Derived.Shelf.Sort.Plain
import Derived.Shelf.Slices.In.SortNone
set_option linter.unusedVariables false
set_option linter.unusedSimpArgs false
namespace Go.Proofs
instance Try.bt : Go.AE.BT := ⟨5, 1000000000⟩
def Try.tab : Go.AE.Tab := [
  (1, ⟨.sc, 1, 8, [.nilf], none⟩),
  (2, ⟨.sc, 1, 8, [.int .i64 0], some (.int .i64)⟩),
  (3, ⟨.sc, 1, 8, [.int .i64 0], some (.int .i64)⟩),
  (4, ⟨.sc, 1, 1, [.bool false], some .bool⟩),
  (5, ⟨.sc, 1, 1, [.int .u8 0], some (.int .u8)⟩),
  (7, ⟨.struct [(2, 0), (3, 1), (4, 2), (6, 3)], 4, 24, [.int .i64 0, .int .i64 0, .bool false, .int .u8 0], some (.st (.pair (.int .i64) (.pair (.int .i64) (.pair .bool (.int .u8)))))⟩),
  (9, ⟨.sc, 1, 16, [.str []], some .str⟩),
  (12, ⟨.sc, 1, 8, [.int .u64 0], some (.int .u64)⟩),
  (20, ⟨.sc, 1, 16, [.nili], none⟩),
  (21, ⟨.sc, 1, 4, [.int .i32 0], some (.int .i32)⟩),
  (22, ⟨.slice 9, 1, 24, [.nils], some (.list .str)⟩),
  (23, ⟨.sc, 1, 8, [.nilf], none⟩),
  (24, ⟨.ptr 54, 1, 8, [.nilp], none⟩),
  (25, ⟨.sc, 1, 8, [.nilf], none⟩),
  (26, ⟨.sc, 1, 8, [.nilf], none⟩),
  (28, ⟨.sc, 1, 8, [.nilf], none⟩),
  (29, ⟨.sc, 1, 8, [.nilf], none⟩),
  (30, ⟨.sc, 1, 8, [.nilf], none⟩),
  (31, ⟨.slice 39, 1, 24, [.nils], some (.list (.st (.pair (.int .i64) (.pair (.int .i64) (.int .i64)))))⟩),
  (32, ⟨.ptr 60, 1, 8, [.nilp], none⟩),
  (33, ⟨.sc, 1, 8, [.nilf], none⟩),
  (34, ⟨.ptr 37, 1, 8, [.nilp], none⟩),
  (35, ⟨.slice 43, 1, 24, [.nils], some (.list (.st (.pair (.int .i64) (.int .i64))))⟩),
  (36, ⟨.struct [(35, 0), (35, 1)], 2, 48, [.nils, .nils], some (.st (.pair (.list (.st (.pair (.int .i64) (.int .i64)))) (.list (.st (.pair (.int .i64) (.int .i64))))))⟩),
  (37, ⟨.struct [(35, 0), (35, 1)], 2, 48, [.nils, .nils], some (.st (.pair (.list (.st (.pair (.int .i64) (.int .i64)))) (.list (.st (.pair (.int .i64) (.int .i64))))))⟩),
  (38, ⟨.struct [(3, 0), (3, 1), (3, 2)], 3, 24, [.int .i64 0, .int .i64 0, .int .i64 0], some (.st (.pair (.int .i64) (.pair (.int .i64) (.int .i64))))⟩),
  (39, ⟨.struct [(3, 0), (3, 1), (3, 2)], 3, 24, [.int .i64 0, .int .i64 0, .int .i64 0], some (.st (.pair (.int .i64) (.pair (.int .i64) (.int .i64))))⟩),
  (40, ⟨.sc, 1, 8, [.nilf], none⟩),
  (41, ⟨.sc, 1, 8, [.nilf], none⟩),
  (42, ⟨.struct [(3, 0), (3, 1)], 2, 16, [.int .i64 0, .int .i64 0], some (.st (.pair (.int .i64) (.int .i64)))⟩),
  (43, ⟨.struct [(3, 0), (3, 1)], 2, 16, [.int .i64 0, .int .i64 0], some (.st (.pair (.int .i64) (.int .i64)))⟩),
  (45, ⟨.sc, 1, 8, [.nilf], none⟩),
  (46, ⟨.sc, 1, 8, [.nilf], none⟩),
  (47, ⟨.sc, 1, 8, [.nilf], none⟩),
  (48, ⟨.sc, 1, 8, [.nilf], none⟩),
  (49, ⟨.sc, 1, 8, [.nilf], none⟩),
  (50, ⟨.sc, 1, 8, [.nilf], none⟩),
  (51, ⟨.map 3 9, 1, 8, [.nilm], none⟩),
  (52, ⟨.map 3 9, 1, 8, [.nilm], none⟩),
  (53, ⟨.struct [(52, 0), (52, 1)], 2, 16, [.nilm, .nilm], none⟩),
  (54, ⟨.struct [(52, 0), (52, 1)], 2, 16, [.nilm, .nilm], none⟩),
  (55, ⟨.sc, 1, 8, [.nilf], none⟩),
  (56, ⟨.sc, 1, 8, [.nilf], none⟩),
  (57, ⟨.map 3 3, 1, 8, [.nilm], none⟩),
  (58, ⟨.map 3 3, 1, 8, [.nilm], none⟩),
  (59, ⟨.struct [(58, 0), (58, 1)], 2, 16, [.nilm, .nilm], none⟩),
  (60, ⟨.struct [(58, 0), (58, 1)], 2, 16, [.nilm, .nilm], none⟩),
  (61, ⟨.sc, 1, 8, [.nilf], none⟩),
  (62, ⟨.sc, 1, 8, [.nilf], none⟩),
  (63, ⟨.sc, 1, 8, [.nilf], none⟩),
  (64, ⟨.slice 3, 1, 24, [.nils], some (.list (.int .i64))⟩),
  (65, ⟨.sc, 1, 8, [.nilf], none⟩),
  (66, ⟨.sc, 1, 8, [.nilf], none⟩),
  (67, ⟨.sc, 1, 8, [.nilf], none⟩),
  (68, ⟨.sc, 1, 8, [.int .u64 0], some (.int .u64)⟩),
  (69, ⟨.sc, 1, 8, [.nilf], none⟩),
  (70, ⟨.sc, 1, 8, [.int .i64 0], some (.int .i64)⟩),
  (72, ⟨.sc, 1, 8, [.nilf], none⟩),
  (73, ⟨.sc, 1, 8, [.nilf], none⟩),
  (74, ⟨.sc, 1, 8, [.nilf], none⟩),
  (75, ⟨.sc, 1, 8, [.nilf], none⟩),
  (76, ⟨.sc, 1, 8, [.nilf], none⟩),
  (77, ⟨.sc, 1, 4, [.int .u32 0], some (.int .u32)⟩),
  (78, ⟨.sc, 1, 8, [.nilf], none⟩),
  (79, ⟨.sc, 1, 8, [.int .u64 0], some (.int .u64)⟩),
  (80, ⟨.sc, 1, 8, [.int .u64 0], some (.int .u64)⟩),
  (81, ⟨.sc, 1, 8, [.nilf], none⟩),
  (82, ⟨.sc, 1, 8, [.nilf], none⟩),
  (83, ⟨.sc, 1, 8, [.nilf], none⟩),
  (84, ⟨.ptr 3, 1, 8, [.nilp], none⟩),
  (85, ⟨.sc, 1, 8, [.nilf], none⟩),
  (86, ⟨.sc, 1, 8, [.nilf], none⟩),
  (87, ⟨.ptr 80, 1, 8, [.nilp], none⟩),
  (89, ⟨.sc, 1, 8, [.nilf], none⟩),
  (90, ⟨.sc, 1, 8, [.nilf], none⟩),
  (98, ⟨.sc, 1, 8, [.nilf], none⟩),
  (99, ⟨.ptr 5, 1, 8, [.nilp], none⟩)]
end Go.Proofs
namespace Go.Proofs.R6
open Go Go.AE
theorem tabOk : TabOk Try.prog Try.tab := tabOk_of_check (by kernel_rfl)
theorem mixed : Try.prog.follows .mixedOrders = true := Checked.mixed Try.checked
end Go.Proofs.R6
namespace Go.Proofs
open Go.Shelf Go.Sort Go.RowKit
def Try.lays189_ren : Go.Shelf.Ren := ⟨fun | 189 => 34 | 125 => 37 | 257 => 36 | 128 => 47 | 129 => 48 | 294 => 38 | 295 => 39 | 296 => 40 | 297 => 41 | 298 => 42 | 299 => 43 | 216 => 44 | 300 => 45 | 301 => 46 | 328 => 49 | 329 => 50 | 330 => 51 | 331 => 52 | 332 => 53 | 215 => 54 | 343 => 55 | n => n, fun | 28 => 64 | 3 => 3 | 46 => 68 | 0 => 0 | 51 => 77 | 53 => 79 | 4 => 4 | 183 => 71 | 182 => 70 | 131 => 44 | 5 => 5 | 9 => 9 | 218 => 80 | 222 => 84 | 228 => 87 | 229 => 88 | n => n, fun | n => n⟩
theorem Try.lays189 : Go.Proofs.Lays.n189 Try.prog Try.lays189_ren := {
  mixed := by kernel_rfl
  f125 := Try.func37.trans (congrArg some (by kernel_rfl))
  f128 := Try.func47.trans (congrArg some (by kernel_rfl))
  f129 := Try.func48.trans (congrArg some (by kernel_rfl))
  f189 := Try.func34.trans (congrArg some (by kernel_rfl))
  f215 := Try.func54.trans (congrArg some (by kernel_rfl))
  f216 := Try.func44.trans (congrArg some (by kernel_rfl))
  f257 := Try.func36.trans (congrArg some (by kernel_rfl))
  f294 := Try.func38.trans (congrArg some (by kernel_rfl))
  f295 := Try.func39.trans (congrArg some (by kernel_rfl))
  f296 := Try.func40.trans (congrArg some (by kernel_rfl))
  f297 := Try.func41.trans (congrArg some (by kernel_rfl))
  f298 := Try.func42.trans (congrArg some (by kernel_rfl))
  f299 := Try.func43.trans (congrArg some (by kernel_rfl))
  f300 := Try.func45.trans (congrArg some (by kernel_rfl))
  f301 := Try.func46.trans (congrArg some (by kernel_rfl))
  f328 := Try.func49.trans (congrArg some (by kernel_rfl))
  f329 := Try.func50.trans (congrArg some (by kernel_rfl))
  f330 := Try.func51.trans (congrArg some (by kernel_rfl))
  f331 := Try.func52.trans (congrArg some (by kernel_rfl))
  f332 := Try.func53.trans (congrArg some (by kernel_rfl))
  f343 := Try.func55.trans (congrArg some (by kernel_rfl))
  t0 := Try.underlying0
  a0 := Try.isAgg0
  z0 := Try.sizeOf0
  v0 := Try.zeroValue0
  t3 := Try.underlying3
  a3 := Try.isAgg3
  z3 := Try.sizeOf3
  v3 := Try.zeroValue3
  t4 := Try.underlying4
  a4 := Try.isAgg4
  z4 := Try.sizeOf4
  v4 := Try.zeroValue4
  t5 := Try.underlying5
  a5 := Try.isAgg5
  z5 := Try.sizeOf5
  v5 := Try.zeroValue5
  t9 := Try.underlying9
  a9 := Try.isAgg9
  z9 := Try.sizeOf9
  v9 := Try.zeroValue9
  t28 := Try.underlying64
  a28 := Try.isAgg64
  z28 := Try.sizeOf64
  v28 := Try.zeroValue64
  t46 := Try.underlying68
  a46 := Try.isAgg68
  z46 := Try.sizeOf68
  v46 := Try.zeroValue68
  t51 := Try.underlying77
  a51 := Try.isAgg77
  z51 := Try.sizeOf77
  v51 := Try.zeroValue77
  t53 := Try.underlying79
  a53 := Try.isAgg79
  z53 := Try.sizeOf79
  v53 := Try.zeroValue79
  t131 := Try.underlying44
  a131 := Try.isAgg44
  z131 := Try.sizeOf44
  v131 := Try.zeroValue44
  t182 := Try.underlying70
  a182 := Try.isAgg70
  z182 := Try.sizeOf70
  v182 := Try.zeroValue70
  t183 := Try.underlying71
  a183 := Try.isAgg71
  z183 := Try.sizeOf71
  v183 := Try.zeroValue71
  t218 := Try.underlying80
  a218 := Try.isAgg80
  z218 := Try.sizeOf80
  v218 := Try.zeroValue80
  t222 := Try.underlying84
  a222 := Try.isAgg84
  z222 := Try.sizeOf84
  v222 := Try.zeroValue84
  t228 := Try.underlying87
  a228 := Try.isAgg87
  z228 := Try.sizeOf87
  v228 := Try.zeroValue87
  t229 := Try.underlying88
  a229 := Try.isAgg88
  z229 := Try.sizeOf88
  v229 := Try.zeroValue88 }
theorem Try.slices_Sort_int (blk off cap : Nat) (zs : List Int) (w : World) (hH : Holds (Value.int .i64) w blk off zs.toArray) (hblk : blk < w.heap.size) (hsz : zs.length < 4611686018427387904) :
    Calls Try.prog 34 #[.slice (some ⟨blk, off, none⟩) zs.length cap] w fun e w' =>
      e = .returned (.tuple #[]) ∧ ∃ n os, w' = grow (putRow (Value.int .i64) (Sort.ahead w n) blk off (zs.mergeSort fun x y => decide (x ≤ y)).toArray) os := Any.slices_Sort_int Try.lays189 blk off cap zs w hH hblk hsz

theorem Try.slices_Sort_int_none (p : Option Addr) (cap : Nat) (w : World) :
    Calls Try.prog 34 #[.slice p 0 cap] w fun e w' => e = .returned (.tuple #[]) ∧ w' = w := Any.slices_Sort_int_none Try.lays189 p cap w
end Go.Proofs
namespace Go.Proofs
open Go.RowKit Go.Maps Go.Sort Go.Shelf
open Go.AE (BT)

theorem R6.info3 : (Try.prog.info? 3).map (fun i => (i.zero, i.size, i.bytes)) = some (some (.int .i64 0), 1, 8) := by kernel_rfl

set_option maxRecDepth 100000 in
set_option maxHeartbeats 4000000 in
theorem R6.each35_ok : AE.IterOk Try.prog 35 (AE.eachStart (.int .i64)) (AE.eachNx (.int .i64)) := by
  refine ⟨⟨_, Try.func35, by kernel_rfl, by decide +kernel⟩, ?_⟩
  intro yv C cap us L J Jx hh hcap hstart hJ0 hJ1 hJ2 hJ3 hY
  obtain ⟨i0, hi, hz0, hz1, hz2⟩ := info_parts R6.info3
  unfold AE.eachStart at hstart
  obtain ⟨l, hl⟩ : ∃ l, AE.eachMap (.int .i64) cap C.H = some l := by
    cases h : AE.eachMap (.int .i64) cap C.H with
    | some l => exact ⟨l, rfl⟩
    | none => rw [h] at hstart; cases hstart
  rw [hl] at hstart
  replace hstart : (cond (Nat.ble l.length 1000000) (some (AE.keysOf l)) none) = some L := hstart
  obtain ⟨hlen, hL⟩ : l.length ≤ 1000000 ∧ AE.keysOf l = L := by
    cases hb : Nat.ble l.length 1000000 with
    | true => rw [hb, cond_true] at hstart; exact ⟨Nat.le_of_ble_eq_true hb, Option.some.inj hstart⟩
    | false => rw [hb, cond_false] at hstart; cases hstart
  obtain ⟨b, mo, es, x, hus, hblive, hcell, hmap, hmr, _, _, hmlive⟩ := AE.each_sees hh hcap hl
  obtain rfl : us = #[.pointer (some ⟨b, 0, none⟩)] := by
    cases us; simpa using hus
  have hb0 : b < C.w.heap.size := by obtain ⟨j, h1, h2⟩ := hblive; exact hh.blk_lt h1 h2
  have hm0 : ∀ m, mo = some m → m < C.w.heap.size := fun m hm => by obtain ⟨j, h1, h2⟩ := hmlive m hm; exact hh.blk_lt h1 h2
  have heslen : es.size = l.length := by have := hmr.length; simpa using this
  obtain ⟨hkeys, hks⟩ := AE.mrel_keys hmr
  clear hstart hcap
  have hlenv : ∀ (p : Option Addr) (n c : Nat) (w : World), (Builtin.len_ #[64] 3 #[.slice p n c]).run Try.prog w = .ok (.int .i64 n) w := fun p n c w => by
    simp [Builtin.len_, run_underlying Try.underlying64]
    rfl
  refine callsIn_of_wp Try.func35 rfl trivial ?_ rfl
  simp only [Try.ntmps35, List.size_toArray, List.length_cons, List.length_nil, Nat.reduceAdd, Nat.reduceSub, Array.replicate_succ, Array.replicate_zero, List.push_toArray, List.append_toArray, List.nil_append, List.cons_append]
  gi_wp2_with (first
    | (gi_at_range; refine AE.wpListIn_range_m _ rfl _ 58 rfl 3 3 Try.underlying58 mo es rfl hmap ?_; intro it hwalk)
    | gi_in)
  try go_frame
  have hB1 : Below C.w.heap.size C.w (C.w.alloc it) := (Below.refl _ C.w).alloc (Nat.le_refl _) _
  gi_loopw [3, 4] (fun p _ wr => ∃ (seen : Array Nat) (vis : List MapEntry), AE.WalkAt wr mo C.w.heap.size es seen ∧ vis.map (·.born) = seen.toList ∧ (∀ e ∈ vis, e ∈ es.toList) ∧ seen.toList.Nodup ∧
      wr.ownsRow (C.w.heap.size + 1) 3 1 p vis.length (vis.map (·.key)) ∧ Below C.w.heap.size C.w wr ∧ C.w.heap.size + 1 ≤ wr.heap.size)
    (fun _ _ wr => AE.walkLeft wr mo C.w.heap.size)
  case atStart =>
    exact ⟨#[], [], hwalk, rfl, by simp, by simp, World.ownsRow_nil _ _ _ _, hB1, by simp⟩
  case round =>
    obtain ⟨seen, vis, hw, hvs, hve, hnd, hrow, hB, hsz⟩ := hrel
    gi_wp2_with (first
      | (gi_at_next; refine AE.wpListIn_next_m _ rfl _ rfl mo C.w.heap.size es seen rfl hw ?_ ?_)
      | gi_in)
    · -- all have come
      intro hall
      have hb0' : (es.toList.map (·.born)).Nodup := by
        cases mo with
        | none => obtain ⟨rfl, _⟩ := hw; simp
        | some m => obtain ⟨ck, since, c0, _, hst, _⟩ := hw; exact hst.2.1
      obtain ⟨hvk, hsort, hvl⟩ := AE.visited_all hmr hb0' hvs hve hnd (by simpa using hall)
      have sortC : CallsIn Fence.wide 0 Try.prog 34 #[u3] wr fun e w' => e = .returned (.tuple #[]) ∧ w'.ownsRow (C.w.heap.size + 1) 3 1 u3 L.length (L.map (Value.int .i64)) ∧ Below C.w.heap.size C.w w' := by
        have hLl : L.length = vis.length := by rw [← hL, ← hsort, List.length_mergeSort, List.length_map]
        rcases hrow.2 with ⟨rfl, hz⟩ | ⟨gb, cap', cur, rfl, hbase, hgb, r1, r2, r3, r4⟩
        · refine (callsIn_wide.2 (Try.slices_Sort_int_none none 0 _)).mono ?_
          rintro e w' ⟨rfl, rfl⟩
          have hL0 : L = [] := List.eq_nil_of_length_eq_zero (by omega)
          rw [hL0]
          exact ⟨rfl, World.ownsRow_nil _ _ _ _, hB⟩
        · have ht : cur.toList.take (vis.map fun e => AE.keyI e.key).length = (vis.map fun e => AE.keyI e.key).map (Value.int .i64) := by
            rw [List.length_map, ← hvk, ← r4, Nat.mul_one]
          have hH : Holds (Value.int .i64) wr gb 0 (vis.map fun e => AE.keyI e.key).toArray := holds_of_blockI hgb ht
          have hgl : gb < wr.heap.size := (Array.getElem?_eq_some_iff.1 hgb).1
          have c := Try.slices_Sort_int gb 0 cap' (vis.map fun e => AE.keyI e.key) wr hH hgl (by rw [List.length_map]; omega)
          rw [List.length_map] at c
          refine (callsIn_wide.2 c).mono ?_
          rintro e w' ⟨rfl, nn, os, rfl⟩
          rw [hsort, hL]
          have hrow' := ownsRow_sortedI (w := wr) (base := C.w.heap.size + 1) (g := gb) (cap := cap') (n := nn) (e := 3) (os := os) (cur := cur) (ss := vis.map fun e => AE.keyI e.key) (ts := L) (by rw [List.length_map]; exact hLl) hbase hgb (by rw [List.length_map]; exact r1) r2 r3
          rw [List.length_map] at hrow'
          rw [hLl]
          exact ⟨rfl, hrow', hB.grown (grownBy_sortedI _) hB.size (fun j hj => by cases hj; omega)⟩
      gi_wp2_with (first | (refine ⟨trivial, rfl, ?_⟩; refine sortC.mono ?_; rintro e w1 ⟨rfl, hrow1, hB2⟩) | gi_in)
      -- between two calls
      obtain ⟨C10, cap10, hw10, hj10⟩ := hJ0
      obtain ⟨hh10, _, _⟩ := hJ1 _ _ _ hj10
      have hp1 : AE.Priv C.w.heap.size C10 w1 := AE.below_priv hh10 (by rw [hw10]; exact hB2) _
      have hj1 : J L (C10.at w1) cap10 := hJ2 _ _ _ _ hj10 hp1
      rcases hrow1.2 with ⟨rfl, hz⟩ | ⟨gb, cap', cur, rfl, hbase, hgb, r1, r2, r3, r4⟩
      · have hLn : L = [] := List.eq_nil_of_length_eq_zero hz
        have hlen1 := hlenv none 0 0 w1
        gi_wp2
        rw [hlen1]
        gi_wp2
        gi_loopw [21, 6] (fun p _ wr => p = .int .i64 0 ∧ wr = w1) (fun _ _ _ => 0)
        case atStart => exact ⟨rfl, rfl⟩
        case round =>
          obtain ⟨rfl, rfl⟩ := hrel
          gi_wp2
          go_end0
          rw [hLn] at hj1
          obtain ⟨_, _, o, ho⟩ := hJ1 _ _ _ hj1
          exact ⟨rfl, .inl ⟨[], C10.at wr, cap10, rfl, hj1, AE.next_end ho⟩⟩
      · have hlen1 := hlenv (some ⟨gb, 0, none⟩) L.length cap' w1
        gi_wp2
        rw [hlen1]
        gi_wp2
        have hLlen : L.length ≤ 1000000 := by rw [← hL, ← hsort, List.length_mergeSort, List.length_map]; omega
        clear hL hsort hvl hvk hall hw hvs hve hnd hrow hb0' sortC
        gi_loopw [21, 6] (fun p _ wr => ∃ (j : Nat) (C1 : AE.Cx) (cap1 : List AE.AV), p = .int .i64 j ∧ j ≤ L.length ∧ C1.w = wr ∧ J (L.drop j) C1 cap1 ∧ wr.heap[gb]? = some (.cells cur 3 (0, 0)) ∧ C1.Beside gb) (fun p _ _ => L.length - (intOf p).toNat)
        case atStart =>
          exact ⟨0, C10.at w1, cap10, rfl, by omega, rfl, hj1, hgb, AE.Beside.new hh10 (by rw [hw10]; omega)⟩
        case round =>
          obtain ⟨j, C1, cap1, rfl, hj, rfl, hjj, hgb1, hbs⟩ := hrel
          by_cases hlt : j < L.length
          · have hlt' : (j : Int) < (L.length : Int) := by omega
            obtain ⟨k, hk⟩ : ∃ k, L[j] = k := ⟨_, rfl⟩
            have hdrop : L.drop j = k :: L.drop (j + 1) := by rw [← hk]; exact List.drop_eq_getElem_cons hlt
            rw [hdrop] at hjj
            obtain ⟨hh1, hv1, o, ho⟩ := hJ1 _ _ _ hjj
            obtain ⟨l1, hl1, rfl⟩ := AE.next_at ho
            obtain ⟨b', mo1, es1, x1, hus1, _, hcell1, _, _, hx1, hmo1, _⟩ := AE.each_sees hh1 hv1 hl1
            obtain rfl : b = b' := by simpa using hus1
            obtain ⟨y, hlook, hy⟩ := AE.lookup_each R6.tabOk hh1 (tl := 58) rfl rfl hx1 hmo1 k
            have hval := hY _ _ _ _ _ hjj ho #[.int .i64 k, y] (by simp only [AE.VRels]; exact ⟨_, _, rfl, by rw [AE.VRel], _, _, rfl, hy, rfl⟩)
            have hcur : cur[j]? = some (.int .i64 k) := by
              have h1 : (cur.toList.take (L.length * 1))[j]? = (L.map (Value.int .i64))[j]? := by rw [r4]
              rw [List.getElem?_take, if_pos (by omega), List.getElem?_map, List.getElem?_eq_getElem hlt, hk] at h1
              simpa using h1
            have hrd : C1.w.cell? ⟨gb, j, none⟩ = some (.int .i64 k) := by
              rw [AE.cell_blk (AE.blkOf_cells hgb1)]
              exact hcur
            clear hY hy ho hmo1 hx1 hv1 hl1 hus1 hJ1
            gi_wp2_with (first
              | (refine AE.wpListIn_callv _ rfl (Operand.tmp 25) #[Operand.tmp 26, Operand.tmp 29] _ rfl hval rfl (by simp [Act.eval]) ?_; rintro e W' (⟨rfl, C', cap2, rfl, hj', hkept⟩ | ⟨rfl, C', rfl, hjx, hkept⟩) <;> refine ⟨_, rfl, ?_⟩)
              | gi_in)
            · obtain ⟨hg2, hb2⟩ := hkept.keep gb (by omega) (Array.getElem?_eq_some_iff.1 hgb1).1 hbs
              refine ⟨⟨j + 1, C', cap2, by simp, by omega, rfl, hj', hg2.trans hgb1, hb2⟩, ?_⟩
              simp [intOf]
              omega
            · refine bodyPost_ret (results_none rfl _ _ _) rfl ?_
              exact ⟨rfl, .inr ⟨C', rfl, hjx⟩⟩
          · have hge : ¬ (j : Int) < (L.length : Int) := by omega
            gi_wp2
            go_end0
            have hd : L.drop j = [] := List.drop_eq_nil_of_le (by omega)
            rw [hd] at hjj
            obtain ⟨_, _, o, ho⟩ := hJ1 _ _ _ hjj
            refine ⟨rfl, .inl ?_⟩
            first | exact ⟨[], C1, cap1, rfl, hjj, AE.next_end ho⟩ | exact ⟨[], C1, rfl, cap1, hjj, AE.next_end ho⟩
    · -- one more
      intro e he hes w' hw' hg hs hen
      have hem : e ∈ es.toList := by simpa using he
      have hkey := hkeys e hem
      have hw0 := hw
      have hes0 : e.born ∉ seen := by simpa using hes
      have hem0 := hem
      obtain ⟨e0, he0⟩ : ∃ e0, e = e0 := ⟨_, rfl⟩
      have hfresh : e.born ∉ seen.toList := by simpa using hes
      have hvlen : vis.length ≤ 1000000 := by
        have h2 : vis.Nodup := AE.nodup_of_map (·.born) (by rw [hvs]; exact hnd)
        have h3 := h2.length_le_of_subset hve
        have h4 := hmr.length
        omega
      have hmx : 2000000 ≤ maxLen := by decide
      obtain ⟨key, val, born⟩ := e
      dsimp only at hkey hen hes hw' ⊢
      obtain ⟨n0, hn0⟩ : ∃ n0, AE.keyI key = n0 := ⟨_, rfl⟩
      rw [hn0] at hkey
      subst hkey
      clear hn0
      have hs2 : wr.heap.size ≤ w'.heap.size ∧ w'.heap.size ≤ wr.heap.size := by omega
      clear hs
      have hrow2 : w'.ownsRow (C.w.heap.size + 1) 3 1 u3 vis.length (vis.map (·.key)) := AE.ownsRow_kept hrow hg (fun r e => by cases e; omega)
      have hblk := AE.ownBlock_base hrow2
      have hB2 : Below C.w.heap.size C.w w' := hB.grown hg hB.size (fun j e => by cases e; omega)
      have hrow3 := AE.ownsRow_kept hrow2 (World.grownBy_alloc w' (.cells #[.int .i64 n0] 3) none) (fun r e => by cases e)
      have e1 : vis.length + 1 ≤ maxLen := by omega
      have e2 : (vis.length + 1) * 8 ≤ 140737488355328 := by omega
      have e3 : C.w.heap.size + 1 ≤ (w'.alloc (.cells #[.int .i64 n0] 3)).heap.size := by rw [World.size_alloc]; omega
      gi_wp2_with (first
        | (gi_at_builtin; refine wpListIn_append_own _ rfl (.tmp 13) (.tmp 15) 64 rfl (C.w.heap.size + 1) 3 i0 (.int .i64 0) 1 8 Try.underlying64 hi hz0 hz1 hz2 rfl (by decide) u3 vis.length (vis.map (·.key)) rfl hrow3 ⟨w'.heap.size, 0, none⟩ 1 1 [.int .i64 n0] rfl rfl (cell_one_new _ _ _) (by simp [Value.oneCell']) e1 e2 e3 ?_; intro v' w3 hown' hgrow _; obtain ⟨g', cap', rfl⟩ := ownsRow_succ hown')
        | gi_in)
      have hWa : AE.WalkAt (w'.alloc (.cells #[.int .i64 n0] 3)) mo C.w.heap.size es (seen.push born) := hw'.kept (World.grownBy_alloc w' _ none) (fun _ _ h => by cases h) (fun h => by cases h)
      have hW3 : AE.WalkAt w3 mo C.w.heap.size es (seen.push born) := hWa.kept hgrow (fun b hb h => by have h1 := hblk _ h; have h2 := hm0 b hb; omega) (fun h => by have h1 := hblk _ h; omega)
      have hB3 : Below C.w.heap.size C.w w3 := (hB2.alloc hB2.size _).grown hgrow (by rw [World.size_alloc]; have := hB2.size; omega) (fun j h => by have h1 := hblk _ h; omega)
      refine ⟨⟨seen.push born, vis ++ [e0], hW3, by rw [List.map_append, hvs, ← he0]; simp, ?_, ?_, ?_, hB3, ?_⟩, hw0.left_lt hem0 hes0 hW3⟩
      · intro y hy
        rcases List.mem_append.1 hy with hy | hy
        · exact hve y hy
        · rw [List.mem_singleton.1 hy, ← he0]; exact hem
      · rw [Array.toList_push]
        exact List.nodup_append.2 ⟨hnd, by simp, fun a ha b hb => by rw [List.mem_singleton.1 hb]; intro e; rw [e] at ha; exact hfresh ha⟩
      · rw [List.map_append, List.length_append, ← he0]
        exact hown'
      · have h1 := hgrow.size
        rw [World.size_alloc] at h1
        omega
end Go.Proofs
namespace Go.Proofs
open Go.RowKit Go.Maps Go.Sort Go.Shelf
open Go.AE (BT)



set_option maxRecDepth 100000 in
set_option maxHeartbeats 4000000 in
theorem R6.each33_ok : AE.IterOk Try.prog 33 (AE.eachStart .str) (AE.eachNx .str) := by
  refine ⟨⟨_, Try.func33, by kernel_rfl, by decide +kernel⟩, ?_⟩
  intro yv C cap us L J Jx hh hcap hstart hJ0 hJ1 hJ2 hJ3 hY
  obtain ⟨i0, hi, hz0, hz1, hz2⟩ := info_parts R6.info3
  unfold AE.eachStart at hstart
  obtain ⟨l, hl⟩ : ∃ l, AE.eachMap .str cap C.H = some l := by
    cases h : AE.eachMap .str cap C.H with
    | some l => exact ⟨l, rfl⟩
    | none => rw [h] at hstart; cases hstart
  rw [hl] at hstart
  replace hstart : (cond (Nat.ble l.length 1000000) (some (AE.keysOf l)) none) = some L := hstart
  obtain ⟨hlen, hL⟩ : l.length ≤ 1000000 ∧ AE.keysOf l = L := by
    cases hb : Nat.ble l.length 1000000 with
    | true => rw [hb, cond_true] at hstart; exact ⟨Nat.le_of_ble_eq_true hb, Option.some.inj hstart⟩
    | false => rw [hb, cond_false] at hstart; cases hstart
  obtain ⟨b, mo, es, x, hus, hblive, hcell, hmap, hmr, _, _, hmlive⟩ := AE.each_sees hh hcap hl
  obtain rfl : us = #[.pointer (some ⟨b, 0, none⟩)] := by
    cases us; simpa using hus
  have hb0 : b < C.w.heap.size := by obtain ⟨j, h1, h2⟩ := hblive; exact hh.blk_lt h1 h2
  have hm0 : ∀ m, mo = some m → m < C.w.heap.size := fun m hm => by obtain ⟨j, h1, h2⟩ := hmlive m hm; exact hh.blk_lt h1 h2
  have heslen : es.size = l.length := by have := hmr.length; simpa using this
  obtain ⟨hkeys, hks⟩ := AE.mrel_keys hmr
  clear hstart hcap
  have hlenv : ∀ (p : Option Addr) (n c : Nat) (w : World), (Builtin.len_ #[64] 3 #[.slice p n c]).run Try.prog w = .ok (.int .i64 n) w := fun p n c w => by
    simp [Builtin.len_, run_underlying Try.underlying64]
    rfl
  refine callsIn_of_wp Try.func33 rfl trivial ?_ rfl
  simp only [Try.ntmps33, List.size_toArray, List.length_cons, List.length_nil, Nat.reduceAdd, Nat.reduceSub, Array.replicate_succ, Array.replicate_zero, List.push_toArray, List.append_toArray, List.nil_append, List.cons_append]
  gi_wp2_with (first
    | (gi_at_range; refine AE.wpListIn_range_m _ rfl _ 52 rfl 3 9 Try.underlying52 mo es rfl hmap ?_; intro it hwalk)
    | gi_in)
  try go_frame
  have hB1 : Below C.w.heap.size C.w (C.w.alloc it) := (Below.refl _ C.w).alloc (Nat.le_refl _) _
  gi_loopw [3, 4] (fun p _ wr => ∃ (seen : Array Nat) (vis : List MapEntry), AE.WalkAt wr mo C.w.heap.size es seen ∧ vis.map (·.born) = seen.toList ∧ (∀ e ∈ vis, e ∈ es.toList) ∧ seen.toList.Nodup ∧
      wr.ownsRow (C.w.heap.size + 1) 3 1 p vis.length (vis.map (·.key)) ∧ Below C.w.heap.size C.w wr ∧ C.w.heap.size + 1 ≤ wr.heap.size)
    (fun _ _ wr => AE.walkLeft wr mo C.w.heap.size)
  case atStart =>
    exact ⟨#[], [], hwalk, rfl, by simp, by simp, World.ownsRow_nil _ _ _ _, hB1, by simp⟩
  case round =>
    obtain ⟨seen, vis, hw, hvs, hve, hnd, hrow, hB, hsz⟩ := hrel
    gi_wp2_with (first
      | (gi_at_next; refine AE.wpListIn_next_m _ rfl _ rfl mo C.w.heap.size es seen rfl hw ?_ ?_)
      | gi_in)
    · -- all have come
      intro hall
      have hb0' : (es.toList.map (·.born)).Nodup := by
        cases mo with
        | none => obtain ⟨rfl, _⟩ := hw; simp
        | some m => obtain ⟨ck, since, c0, _, hst, _⟩ := hw; exact hst.2.1
      obtain ⟨hvk, hsort, hvl⟩ := AE.visited_all hmr hb0' hvs hve hnd (by simpa using hall)
      have sortC : CallsIn Fence.wide 0 Try.prog 34 #[u3] wr fun e w' => e = .returned (.tuple #[]) ∧ w'.ownsRow (C.w.heap.size + 1) 3 1 u3 L.length (L.map (Value.int .i64)) ∧ Below C.w.heap.size C.w w' := by
        have hLl : L.length = vis.length := by rw [← hL, ← hsort, List.length_mergeSort, List.length_map]
        rcases hrow.2 with ⟨rfl, hz⟩ | ⟨gb, cap', cur, rfl, hbase, hgb, r1, r2, r3, r4⟩
        · refine (callsIn_wide.2 (Try.slices_Sort_int_none none 0 _)).mono ?_
          rintro e w' ⟨rfl, rfl⟩
          have hL0 : L = [] := List.eq_nil_of_length_eq_zero (by omega)
          rw [hL0]
          exact ⟨rfl, World.ownsRow_nil _ _ _ _, hB⟩
        · have ht : cur.toList.take (vis.map fun e => AE.keyI e.key).length = (vis.map fun e => AE.keyI e.key).map (Value.int .i64) := by
            rw [List.length_map, ← hvk, ← r4, Nat.mul_one]
          have hH : Holds (Value.int .i64) wr gb 0 (vis.map fun e => AE.keyI e.key).toArray := holds_of_blockI hgb ht
          have hgl : gb < wr.heap.size := (Array.getElem?_eq_some_iff.1 hgb).1
          have c := Try.slices_Sort_int gb 0 cap' (vis.map fun e => AE.keyI e.key) wr hH hgl (by rw [List.length_map]; omega)
          rw [List.length_map] at c
          refine (callsIn_wide.2 c).mono ?_
          rintro e w' ⟨rfl, nn, os, rfl⟩
          rw [hsort, hL]
          have hrow' := ownsRow_sortedI (w := wr) (base := C.w.heap.size + 1) (g := gb) (cap := cap') (n := nn) (e := 3) (os := os) (cur := cur) (ss := vis.map fun e => AE.keyI e.key) (ts := L) (by rw [List.length_map]; exact hLl) hbase hgb (by rw [List.length_map]; exact r1) r2 r3
          rw [List.length_map] at hrow'
          rw [hLl]
          exact ⟨rfl, hrow', hB.grown (grownBy_sortedI _) hB.size (fun j hj => by cases hj; omega)⟩
      gi_wp2_with (first | (refine ⟨trivial, rfl, ?_⟩; refine sortC.mono ?_; rintro e w1 ⟨rfl, hrow1, hB2⟩) | gi_in)
      -- between two calls
      obtain ⟨C10, cap10, hw10, hj10⟩ := hJ0
      obtain ⟨hh10, _, _⟩ := hJ1 _ _ _ hj10
      have hp1 : AE.Priv C.w.heap.size C10 w1 := AE.below_priv hh10 (by rw [hw10]; exact hB2) _
      have hj1 : J L (C10.at w1) cap10 := hJ2 _ _ _ _ hj10 hp1
      rcases hrow1.2 with ⟨rfl, hz⟩ | ⟨gb, cap', cur, rfl, hbase, hgb, r1, r2, r3, r4⟩
      · have hLn : L = [] := List.eq_nil_of_length_eq_zero hz
        have hlen1 := hlenv none 0 0 w1
        gi_wp2
        rw [hlen1]
        gi_wp2
        gi_loopw [21, 6] (fun p _ wr => p = .int .i64 0 ∧ wr = w1) (fun _ _ _ => 0)
        case atStart => exact ⟨rfl, rfl⟩
        case round =>
          obtain ⟨rfl, rfl⟩ := hrel
          gi_wp2
          go_end0
          rw [hLn] at hj1
          obtain ⟨_, _, o, ho⟩ := hJ1 _ _ _ hj1
          exact ⟨rfl, .inl ⟨[], C10.at wr, cap10, rfl, hj1, AE.next_end ho⟩⟩
      · have hlen1 := hlenv (some ⟨gb, 0, none⟩) L.length cap' w1
        gi_wp2
        rw [hlen1]
        gi_wp2
        have hLlen : L.length ≤ 1000000 := by rw [← hL, ← hsort, List.length_mergeSort, List.length_map]; omega
        clear hL hsort hvl hvk hall hw hvs hve hnd hrow hb0' sortC
        gi_loopw [21, 6] (fun p _ wr => ∃ (j : Nat) (C1 : AE.Cx) (cap1 : List AE.AV), p = .int .i64 j ∧ j ≤ L.length ∧ C1.w = wr ∧ J (L.drop j) C1 cap1 ∧ wr.heap[gb]? = some (.cells cur 3 (0, 0)) ∧ C1.Beside gb) (fun p _ _ => L.length - (intOf p).toNat)
        case atStart =>
          exact ⟨0, C10.at w1, cap10, rfl, by omega, rfl, hj1, hgb, AE.Beside.new hh10 (by rw [hw10]; omega)⟩
        case round =>
          obtain ⟨j, C1, cap1, rfl, hj, rfl, hjj, hgb1, hbs⟩ := hrel
          by_cases hlt : j < L.length
          · have hlt' : (j : Int) < (L.length : Int) := by omega
            obtain ⟨k, hk⟩ : ∃ k, L[j] = k := ⟨_, rfl⟩
            have hdrop : L.drop j = k :: L.drop (j + 1) := by rw [← hk]; exact List.drop_eq_getElem_cons hlt
            rw [hdrop] at hjj
            obtain ⟨hh1, hv1, o, ho⟩ := hJ1 _ _ _ hjj
            obtain ⟨l1, hl1, rfl⟩ := AE.next_at ho
            obtain ⟨b', mo1, es1, x1, hus1, _, hcell1, _, _, hx1, hmo1, _⟩ := AE.each_sees hh1 hv1 hl1
            obtain rfl : b = b' := by simpa using hus1
            obtain ⟨y, hlook, hy⟩ := AE.lookup_each R6.tabOk hh1 (tl := 52) rfl rfl hx1 hmo1 k
            have hval := hY _ _ _ _ _ hjj ho #[.int .i64 k, y] (by simp only [AE.VRels]; exact ⟨_, _, rfl, by rw [AE.VRel], _, _, rfl, hy, rfl⟩)
            have hcur : cur[j]? = some (.int .i64 k) := by
              have h1 : (cur.toList.take (L.length * 1))[j]? = (L.map (Value.int .i64))[j]? := by rw [r4]
              rw [List.getElem?_take, if_pos (by omega), List.getElem?_map, List.getElem?_eq_getElem hlt, hk] at h1
              simpa using h1
            have hrd : C1.w.cell? ⟨gb, j, none⟩ = some (.int .i64 k) := by
              rw [AE.cell_blk (AE.blkOf_cells hgb1)]
              exact hcur
            clear hY hy ho hmo1 hx1 hv1 hl1 hus1 hJ1
            gi_wp2_with (first
              | (refine AE.wpListIn_callv _ rfl (Operand.tmp 25) #[Operand.tmp 26, Operand.tmp 29] _ rfl hval rfl (by simp [Act.eval]) ?_; rintro e W' (⟨rfl, C', cap2, rfl, hj', hkept⟩ | ⟨rfl, C', rfl, hjx, hkept⟩) <;> refine ⟨_, rfl, ?_⟩)
              | gi_in)
            · obtain ⟨hg2, hb2⟩ := hkept.keep gb (by omega) (Array.getElem?_eq_some_iff.1 hgb1).1 hbs
              refine ⟨⟨j + 1, C', cap2, by simp, by omega, rfl, hj', hg2.trans hgb1, hb2⟩, ?_⟩
              simp [intOf]
              omega
            · refine bodyPost_ret (results_none rfl _ _ _) rfl ?_
              exact ⟨rfl, .inr ⟨C', rfl, hjx⟩⟩
          · have hge : ¬ (j : Int) < (L.length : Int) := by omega
            gi_wp2
            go_end0
            have hd : L.drop j = [] := List.drop_eq_nil_of_le (by omega)
            rw [hd] at hjj
            obtain ⟨_, _, o, ho⟩ := hJ1 _ _ _ hjj
            refine ⟨rfl, .inl ?_⟩
            first | exact ⟨[], C1, cap1, rfl, hjj, AE.next_end ho⟩ | exact ⟨[], C1, rfl, cap1, hjj, AE.next_end ho⟩
    · -- one more
      intro e he hes w' hw' hg hs hen
      have hem : e ∈ es.toList := by simpa using he
      have hkey := hkeys e hem
      have hw0 := hw
      have hes0 : e.born ∉ seen := by simpa using hes
      have hem0 := hem
      obtain ⟨e0, he0⟩ : ∃ e0, e = e0 := ⟨_, rfl⟩
      have hfresh : e.born ∉ seen.toList := by simpa using hes
      have hvlen : vis.length ≤ 1000000 := by
        have h2 : vis.Nodup := AE.nodup_of_map (·.born) (by rw [hvs]; exact hnd)
        have h3 := h2.length_le_of_subset hve
        have h4 := hmr.length
        omega
      have hmx : 2000000 ≤ maxLen := by decide
      obtain ⟨key, val, born⟩ := e
      dsimp only at hkey hen hes hw' ⊢
      obtain ⟨n0, hn0⟩ : ∃ n0, AE.keyI key = n0 := ⟨_, rfl⟩
      rw [hn0] at hkey
      subst hkey
      clear hn0
      have hs2 : wr.heap.size ≤ w'.heap.size ∧ w'.heap.size ≤ wr.heap.size := by omega
      clear hs
      have hrow2 : w'.ownsRow (C.w.heap.size + 1) 3 1 u3 vis.length (vis.map (·.key)) := AE.ownsRow_kept hrow hg (fun r e => by cases e; omega)
      have hblk := AE.ownBlock_base hrow2
      have hB2 : Below C.w.heap.size C.w w' := hB.grown hg hB.size (fun j e => by cases e; omega)
      have hrow3 := AE.ownsRow_kept hrow2 (World.grownBy_alloc w' (.cells #[.int .i64 n0] 3) none) (fun r e => by cases e)
      have e1 : vis.length + 1 ≤ maxLen := by omega
      have e2 : (vis.length + 1) * 8 ≤ 140737488355328 := by omega
      have e3 : C.w.heap.size + 1 ≤ (w'.alloc (.cells #[.int .i64 n0] 3)).heap.size := by rw [World.size_alloc]; omega
      gi_wp2_with (first
        | (gi_at_builtin; refine wpListIn_append_own _ rfl (.tmp 13) (.tmp 15) 64 rfl (C.w.heap.size + 1) 3 i0 (.int .i64 0) 1 8 Try.underlying64 hi hz0 hz1 hz2 rfl (by decide) u3 vis.length (vis.map (·.key)) rfl hrow3 ⟨w'.heap.size, 0, none⟩ 1 1 [.int .i64 n0] rfl rfl (cell_one_new _ _ _) (by simp [Value.oneCell']) e1 e2 e3 ?_; intro v' w3 hown' hgrow _; obtain ⟨g', cap', rfl⟩ := ownsRow_succ hown')
        | gi_in)
      have hWa : AE.WalkAt (w'.alloc (.cells #[.int .i64 n0] 3)) mo C.w.heap.size es (seen.push born) := hw'.kept (World.grownBy_alloc w' _ none) (fun _ _ h => by cases h) (fun h => by cases h)
      have hW3 : AE.WalkAt w3 mo C.w.heap.size es (seen.push born) := hWa.kept hgrow (fun b hb h => by have h1 := hblk _ h; have h2 := hm0 b hb; omega) (fun h => by have h1 := hblk _ h; omega)
      have hB3 : Below C.w.heap.size C.w w3 := (hB2.alloc hB2.size _).grown hgrow (by rw [World.size_alloc]; have := hB2.size; omega) (fun j h => by have h1 := hblk _ h; omega)
      refine ⟨⟨seen.push born, vis ++ [e0], hW3, by rw [List.map_append, hvs, ← he0]; simp, ?_, ?_, ?_, hB3, ?_⟩, hw0.left_lt hem0 hes0 hW3⟩
      · intro y hy
        rcases List.mem_append.1 hy with hy | hy
        · exact hve y hy
        · rw [List.mem_singleton.1 hy, ← he0]; exact hem
      · rw [Array.toList_push]
        exact List.nodup_append.2 ⟨hnd, by simp, fun a ha b hb => by rw [List.mem_singleton.1 hb]; intro e; rw [e] at ha; exact hfresh ha⟩
      · rw [List.map_append, List.length_append, ← he0]
        exact hown'
      · have h1 := hgrow.size
        rw [World.size_alloc] at h1
        omega
end Go.Proofs
namespace Go.Proofs.R6
open Go Go.AE
theorem iter33_spec : SpecOk Try.prog 100033 (.iter (eachBegin .str) (eachNext .str)) := each_spec R6.each33_ok
theorem iter35_spec : SpecOk Try.prog 100035 (.iter (eachBegin (.int .i64)) (eachNext (.int .i64))) := each_spec R6.each35_ok
end Go.Proofs.R6
namespace Go.Proofs.R6
open Go Go.AE
--@ shadow_New_int
noncomputable def envshadow_New_int : Env := []
theorem envshadow_New_intOk : EnvOk Try.prog envshadow_New_int := EnvOk.nil
noncomputable def bshadow_New_int : Code := Try.f13.body.getD .skip
noncomputable def annshadow_New_int : Ann := .none
theorem annshadow_New_int_ok : AnnOk Try.prog 5 bshadow_New_int annshadow_New_int := (annOk_none _ _ _)
abbrev Ashadow_New_int := Unit
abbrev Yshadow_New_int := Unit
def fnshadow_New_int {β : Type} : Ashadow_New_int → (Yshadow_New_int → Option β) → Option β := fun _ exit => (exit ())
def fnDshadow_New_int (a : Ashadow_New_int) : Option Yshadow_New_int := fnshadow_New_int a some
theorem fnshadow_New_int_nat (a : Ashadow_New_int) (k : Yshadow_New_int → Ans) : fnshadow_New_int a k = bindO (fnDshadow_New_int a) k := by
  obtain z := a
  simp only [fnDshadow_New_int, fnshadow_New_int, bindO_cond, bindO_assoc, bindO_none, bindO_pure, bindO_elim, bindO_unP]
def argsshadow_New_int : Ashadow_New_int → List AV × List AE.Obj := fun _ => ([], [])
def decAshadow_New_int (l : List AV) (H : List AE.Obj) : Option Ashadow_New_int := match l, H with
  | [], [] => some ()
  | _, _ => none
theorem decAshadow_New_int_ok (l : List AV) (H : List AE.Obj) (a : Ashadow_New_int) (h : decAshadow_New_int l H = some a) : (l, H) = argsshadow_New_int a := by
  unfold decAshadow_New_int at h
  split at h
  · cases h; rfl
  · cases h
def outshadow_New_int : Ashadow_New_int → (AV → List AE.Obj → Ans) → Yshadow_New_int → Ans := fun _ K => fun _ => K (AV.ptr 0 0) [AE.Obj.cells [AV.map 1, AV.map 2], Obj.mp IntKind.i64 (Ty.int IntKind.i64) ([]), Obj.mp IntKind.i64 (Ty.int IntKind.i64) ([])]
theorem fnshadow_New_int_ok (a : Ashadow_New_int) (K : AV → List AE.Obj → Ans) : fnE Try.tab envshadow_New_int noHint 0 70 13 Try.f13.ntmps Try.f13.results.toList annshadow_New_int bshadow_New_int (argsshadow_New_int a).1 (argsshadow_New_int a).2 K = fnshadow_New_int a (outshadow_New_int a K) := by kernel_rfl
def vFshadow_New_int (a : Ashadow_New_int) (K : AV → List AE.Obj → Ans) : Ans := bindO (fnDshadow_New_int a) fun y => outshadow_New_int a K y
def Fshadow_New_int : List AV → List AE.Obj → (AV → List AE.Obj → Ans) → Ans := fun l H K => bindO (decAshadow_New_int l H) fun a => vFshadow_New_int a K
theorem Fshadow_New_int_ok : FuncOk Try.prog 13 Fshadow_New_int := func_mkD (hint := noHint) (d := 0) (n := 70) mixed tabOk envshadow_New_intOk Try.func13 (bodySome (by kernel_rfl)) (by decide +kernel) annshadow_New_int_ok decAshadow_New_int_ok fnshadow_New_int_ok fnshadow_New_int_nat
--@ shadow_Shadow_int_made
noncomputable def envshadow_Shadow_int_made : Env := []
theorem envshadow_Shadow_int_madeOk : EnvOk Try.prog envshadow_Shadow_int_made := EnvOk.nil
noncomputable def bshadow_Shadow_int_made : Code := Try.f28.body.getD .skip
noncomputable def Lshadow_Shadow_int_made_n0 : Code := codeAt [0, 1] bshadow_Shadow_int_made
noncomputable def annLshadow_Shadow_int_made_n0 : Ann := .none
theorem annLshadow_Shadow_int_made_n0_ok : AnnOk Try.prog 20 Lshadow_Shadow_int_made_n0 annLshadow_Shadow_int_made_n0 := (annOk_none _ _ _)
abbrev Ishadow_Shadow_int_made_n0 := (List (Int × Int)) × (List (Int × Int))
abbrev Yshadow_Shadow_int_made_n0 := Unit
def Sshadow_Shadow_int_made_n0 : Ishadow_Shadow_int_made_n0 → St := fun (o1, o2) => { env := [(0, AV.ptr 0 0), (6, AV.bool (false))], stk := [[(0, AV.ptr 0 0)]], H := [AE.Obj.cells [AV.map 1, AV.map 2], Obj.mp IntKind.i64 (Ty.int IntKind.i64) o1, Obj.mp IntKind.i64 (Ty.int IntKind.i64) o2], blk := 114688 }
def decshadow_Shadow_int_made_n0 (s : St) : Option Ishadow_Shadow_int_made_n0 := match s with
  | { env := [(0, AV.ptr 0 0), (6, AV.bool r0)], stk := [[(0, AV.ptr 0 0)]], H := [AE.Obj.cells [AV.map 1, AV.map 2], Obj.mp IntKind.i64 (Ty.int IntKind.i64) o1, Obj.mp IntKind.i64 (Ty.int IntKind.i64) o2], blk := 114688 } => cond (decide (r0 = false)) (some (o1, o2)) none
  | _ => none
theorem decshadow_Shadow_int_made_n0_ok (s : St) (x : Ishadow_Shadow_int_made_n0) (h : decshadow_Shadow_int_made_n0 s = some x) : s = Sshadow_Shadow_int_made_n0 x := by
  unfold decshadow_Shadow_int_made_n0 at h
  split at h
  · replace h := cond_noneO h; obtain ⟨hg, h⟩ := h; simp only [Bool.and_eq_true, decide_eq_true_eq] at hg; simp only [hg]; cases h; rfl
  · cases h
def outshadow_Shadow_int_made_n0 : Ishadow_Shadow_int_made_n0 → (Ex → St → Ans) → Yshadow_Shadow_int_made_n0 → Ans := fun (o1, o2) K => fun _ => K (Ex.norm) { env := [(0, AV.ptr 0 0)], stk := [[(0, AV.ptr 0 0)]], H := [AE.Obj.cells [AV.map 1, AV.map 2], Obj.mp IntKind.i64 (Ty.int IntKind.i64) o1, Obj.mp IntKind.i64 (Ty.int IntKind.i64) o2], blk := 114688 }
def nodeshadow_Shadow_int_made_n0 {β : Type} : Ishadow_Shadow_int_made_n0 → (Yshadow_Shadow_int_made_n0 → Option β) → Option β := fun (o1, o2) exit => (exit ())
def nodeDshadow_Shadow_int_made_n0 (i : Ishadow_Shadow_int_made_n0) : Option Yshadow_Shadow_int_made_n0 := nodeshadow_Shadow_int_made_n0 i some
theorem nodeshadow_Shadow_int_made_n0_nat (i : Ishadow_Shadow_int_made_n0) (k : Yshadow_Shadow_int_made_n0 → Ans) : nodeshadow_Shadow_int_made_n0 i k = bindO (nodeDshadow_Shadow_int_made_n0 i) k := by
  obtain ⟨o1, o2⟩ := i
  simp only [nodeDshadow_Shadow_int_made_n0, nodeshadow_Shadow_int_made_n0, bindO_cond, bindO_assoc, bindO_none, bindO_pure, bindO_elim, bindO_unP]
theorem nodeshadow_Shadow_int_made_n0_ok (i : Ishadow_Shadow_int_made_n0) (K : Ex → St → Ans) : codeI Try.tab envshadow_Shadow_int_made noHint (codeD Try.tab envshadow_Shadow_int_made noHint 0 64) 70 20 annLshadow_Shadow_int_made_n0 Lshadow_Shadow_int_made_n0 (weakP 3 (exk [0] [] []) K) (Sshadow_Shadow_int_made_n0 i) = nodeshadow_Shadow_int_made_n0 i (outshadow_Shadow_int_made_n0 i K) := by kernel_rfl
theorem GNshadow_Shadow_int_made_n0_ok : CSum Try.prog 20 Lshadow_Shadow_int_made_n0 (sumN decshadow_Shadow_int_made_n0 nodeDshadow_Shadow_int_made_n0 outshadow_Shadow_int_made_n0) := csum_node mixed tabOk envshadow_Shadow_int_madeOk 3 (exk [0] [] []) annLshadow_Shadow_int_made_n0_ok decshadow_Shadow_int_made_n0_ok nodeshadow_Shadow_int_made_n0_ok nodeshadow_Shadow_int_made_n0_nat
noncomputable def Gshadow_Shadow_int_made_n0 : (Ex → St → Ans) → St → Ans := (sumN decshadow_Shadow_int_made_n0 nodeDshadow_Shadow_int_made_n0 outshadow_Shadow_int_made_n0)
theorem Gshadow_Shadow_int_made_n0_ok : CSum Try.prog 20 Lshadow_Shadow_int_made_n0 Gshadow_Shadow_int_made_n0 := GNshadow_Shadow_int_made_n0_ok
noncomputable def annshadow_Shadow_int_made : Ann := (.seq (.seq .none (.cut 3 [0, 6] Gshadow_Shadow_int_made_n0)) .none)
theorem annshadow_Shadow_int_made_ok : AnnOk Try.prog 20 bshadow_Shadow_int_made annshadow_Shadow_int_made := ⟨⟨(annOk_none _ _ _), Gshadow_Shadow_int_made_n0_ok⟩, (annOk_none _ _ _)⟩
abbrev Ashadow_Shadow_int_made := (List (Int × Int)) × (List (Int × Int))
abbrev Yshadow_Shadow_int_made := Unit
def fnshadow_Shadow_int_made {β : Type} : Ashadow_Shadow_int_made → (Yshadow_Shadow_int_made → Option β) → Option β := fun (o1, o2) exit => (bindO (nodeDshadow_Shadow_int_made_n0 (o1, o2)) fun _ => (exit ()))
def fnDshadow_Shadow_int_made (a : Ashadow_Shadow_int_made) : Option Yshadow_Shadow_int_made := fnshadow_Shadow_int_made a some
theorem fnshadow_Shadow_int_made_nat (a : Ashadow_Shadow_int_made) (k : Yshadow_Shadow_int_made → Ans) : fnshadow_Shadow_int_made a k = bindO (fnDshadow_Shadow_int_made a) k := by
  obtain ⟨o1, o2⟩ := a
  simp only [fnDshadow_Shadow_int_made, fnshadow_Shadow_int_made, bindO_cond, bindO_assoc, bindO_none, bindO_pure, bindO_elim, bindO_unP]
def argsshadow_Shadow_int_made : Ashadow_Shadow_int_made → List AV × List AE.Obj := fun (o1, o2) => ([AV.ptr 0 0], [AE.Obj.cells [AV.map 1, AV.map 2], Obj.mp IntKind.i64 (Ty.int IntKind.i64) o1, Obj.mp IntKind.i64 (Ty.int IntKind.i64) o2])
def decAshadow_Shadow_int_made (l : List AV) (H : List AE.Obj) : Option Ashadow_Shadow_int_made := match l, H with
  | [AV.ptr 0 0], [AE.Obj.cells [AV.map 1, AV.map 2], Obj.mp IntKind.i64 (Ty.int IntKind.i64) o1, Obj.mp IntKind.i64 (Ty.int IntKind.i64) o2] => some (o1, o2)
  | _, _ => none
theorem decAshadow_Shadow_int_made_ok (l : List AV) (H : List AE.Obj) (a : Ashadow_Shadow_int_made) (h : decAshadow_Shadow_int_made l H = some a) : (l, H) = argsshadow_Shadow_int_made a := by
  unfold decAshadow_Shadow_int_made at h
  split at h
  · cases h; rfl
  · cases h
def outshadow_Shadow_int_made : Ashadow_Shadow_int_made → (AV → List AE.Obj → Ans) → Yshadow_Shadow_int_made → Ans := fun (o1, o2) K => fun _ => K (AV.tup []) [AE.Obj.cells [AV.map 1, AV.map 2], Obj.mp IntKind.i64 (Ty.int IntKind.i64) o1, Obj.mp IntKind.i64 (Ty.int IntKind.i64) o2]
theorem fnshadow_Shadow_int_made_ok (a : Ashadow_Shadow_int_made) (K : AV → List AE.Obj → Ans) : fnE Try.tab envshadow_Shadow_int_made noHint 0 70 28 Try.f28.ntmps Try.f28.results.toList annshadow_Shadow_int_made bshadow_Shadow_int_made (argsshadow_Shadow_int_made a).1 (argsshadow_Shadow_int_made a).2 K = fnshadow_Shadow_int_made a (outshadow_Shadow_int_made a K) := by kernel_rfl
def vFshadow_Shadow_int_made (a : Ashadow_Shadow_int_made) (K : AV → List AE.Obj → Ans) : Ans := bindO (fnDshadow_Shadow_int_made a) fun y => outshadow_Shadow_int_made a K y
def Fshadow_Shadow_int_made : List AV → List AE.Obj → (AV → List AE.Obj → Ans) → Ans := fun l H K => bindO (decAshadow_Shadow_int_made l H) fun a => vFshadow_Shadow_int_made a K
theorem Fshadow_Shadow_int_made_ok : FuncOk Try.prog 28 Fshadow_Shadow_int_made := func_mkD (hint := noHint) (d := 0) (n := 70) mixed tabOk envshadow_Shadow_int_madeOk Try.func28 (bodySome (by kernel_rfl)) (by decide +kernel) annshadow_Shadow_int_made_ok decAshadow_Shadow_int_made_ok fnshadow_Shadow_int_made_ok fnshadow_Shadow_int_made_nat
--@ shadow_Shadow_int_Put
noncomputable def envshadow_Shadow_int_Put : Env := [(28, .func Fshadow_Shadow_int_made)]
theorem envshadow_Shadow_int_PutOk : EnvOk Try.prog envshadow_Shadow_int_Put := EnvOk.cons Fshadow_Shadow_int_made_ok (EnvOk.nil)
noncomputable def bshadow_Shadow_int_Put : Code := Try.f14.body.getD .skip
noncomputable def annshadow_Shadow_int_Put : Ann := .none
theorem annshadow_Shadow_int_Put_ok : AnnOk Try.prog 16 bshadow_Shadow_int_Put annshadow_Shadow_int_Put := (annOk_none _ _ _)
abbrev Ashadow_Shadow_int_Put := (Int) × (Int) × (List (Int × Int)) × (List (Int × Int))
abbrev Yshadow_Shadow_int_Put := (List (Int × Int))
def fnshadow_Shadow_int_Put {β : Type} : Ashadow_Shadow_int_Put → (Yshadow_Shadow_int_Put → Option β) → Option β := fun (a1, a2, o1, o2) exit => (bindO (fnDshadow_Shadow_int_made (o1, o2)) fun _ => (exit (mput a1 a2 o2)))
def fnDshadow_Shadow_int_Put (a : Ashadow_Shadow_int_Put) : Option Yshadow_Shadow_int_Put := fnshadow_Shadow_int_Put a some
theorem fnshadow_Shadow_int_Put_nat (a : Ashadow_Shadow_int_Put) (k : Yshadow_Shadow_int_Put → Ans) : fnshadow_Shadow_int_Put a k = bindO (fnDshadow_Shadow_int_Put a) k := by
  obtain ⟨a1, a2, o1, o2⟩ := a
  simp only [fnDshadow_Shadow_int_Put, fnshadow_Shadow_int_Put, bindO_cond, bindO_assoc, bindO_none, bindO_pure, bindO_elim, bindO_unP]
def argsshadow_Shadow_int_Put : Ashadow_Shadow_int_Put → List AV × List AE.Obj := fun (a1, a2, o1, o2) => ([AV.ptr 0 0, AV.int IntKind.i64 a1, AV.int IntKind.i64 a2], [AE.Obj.cells [AV.map 1, AV.map 2], Obj.mp IntKind.i64 (Ty.int IntKind.i64) o1, Obj.mp IntKind.i64 (Ty.int IntKind.i64) o2])
def decAshadow_Shadow_int_Put (l : List AV) (H : List AE.Obj) : Option Ashadow_Shadow_int_Put := match l, H with
  | [AV.ptr 0 0, AV.int IntKind.i64 a1, AV.int IntKind.i64 a2], [AE.Obj.cells [AV.map 1, AV.map 2], Obj.mp IntKind.i64 (Ty.int IntKind.i64) o1, Obj.mp IntKind.i64 (Ty.int IntKind.i64) o2] => some (a1, a2, o1, o2)
  | _, _ => none
theorem decAshadow_Shadow_int_Put_ok (l : List AV) (H : List AE.Obj) (a : Ashadow_Shadow_int_Put) (h : decAshadow_Shadow_int_Put l H = some a) : (l, H) = argsshadow_Shadow_int_Put a := by
  unfold decAshadow_Shadow_int_Put at h
  split at h
  · cases h; rfl
  · cases h
def outshadow_Shadow_int_Put : Ashadow_Shadow_int_Put → (AV → List AE.Obj → Ans) → Yshadow_Shadow_int_Put → Ans := fun (a1, a2, o1, o2) K => fun o2_y => K (AV.tup []) [AE.Obj.cells [AV.map 1, AV.map 2], Obj.mp IntKind.i64 (Ty.int IntKind.i64) o1, Obj.mp IntKind.i64 (Ty.int IntKind.i64) o2_y]
theorem fnshadow_Shadow_int_Put_ok (a : Ashadow_Shadow_int_Put) (K : AV → List AE.Obj → Ans) : fnE Try.tab envshadow_Shadow_int_Put noHint 0 70 14 Try.f14.ntmps Try.f14.results.toList annshadow_Shadow_int_Put bshadow_Shadow_int_Put (argsshadow_Shadow_int_Put a).1 (argsshadow_Shadow_int_Put a).2 K = fnshadow_Shadow_int_Put a (outshadow_Shadow_int_Put a K) := by kernel_rfl
def vFshadow_Shadow_int_Put (a : Ashadow_Shadow_int_Put) (K : AV → List AE.Obj → Ans) : Ans := bindO (fnDshadow_Shadow_int_Put a) fun y => outshadow_Shadow_int_Put a K y
def Fshadow_Shadow_int_Put : List AV → List AE.Obj → (AV → List AE.Obj → Ans) → Ans := fun l H K => bindO (decAshadow_Shadow_int_Put l H) fun a => vFshadow_Shadow_int_Put a K
theorem Fshadow_Shadow_int_Put_ok : FuncOk Try.prog 14 Fshadow_Shadow_int_Put := func_mkD (hint := noHint) (d := 0) (n := 70) mixed tabOk envshadow_Shadow_int_PutOk Try.func14 (bodySome (by kernel_rfl)) (by decide +kernel) annshadow_Shadow_int_Put_ok decAshadow_Shadow_int_Put_ok fnshadow_Shadow_int_Put_ok fnshadow_Shadow_int_Put_nat
--@ shadow_layer_int_each
noncomputable def envshadow_layer_int_each : Env := []
theorem envshadow_layer_int_eachOk : EnvOk Try.prog envshadow_layer_int_each := EnvOk.nil
noncomputable def bshadow_layer_int_each : Code := Try.f30.body.getD .skip
noncomputable def annshadow_layer_int_each : Ann := .none
theorem annshadow_layer_int_each_ok : AnnOk Try.prog 4 bshadow_layer_int_each annshadow_layer_int_each := (annOk_none _ _ _)
abbrev Ashadow_layer_int_each := (List (Int × Int))
abbrev Yshadow_layer_int_each := Unit
def fnshadow_layer_int_each {β : Type} : Ashadow_layer_int_each → (Yshadow_layer_int_each → Option β) → Option β := fun o0 exit => (exit ())
def fnDshadow_layer_int_each (a : Ashadow_layer_int_each) : Option Yshadow_layer_int_each := fnshadow_layer_int_each a some
theorem fnshadow_layer_int_each_nat (a : Ashadow_layer_int_each) (k : Yshadow_layer_int_each → Ans) : fnshadow_layer_int_each a k = bindO (fnDshadow_layer_int_each a) k := by
  obtain z := a
  simp only [fnDshadow_layer_int_each, fnshadow_layer_int_each, bindO_cond, bindO_assoc, bindO_none, bindO_pure, bindO_elim, bindO_unP]
def argsshadow_layer_int_each : Ashadow_layer_int_each → List AV × List AE.Obj := fun o0 => ([AV.map 0], [Obj.mp IntKind.i64 (Ty.int IntKind.i64) o0])
def decAshadow_layer_int_each (l : List AV) (H : List AE.Obj) : Option Ashadow_layer_int_each := match l, H with
  | [AV.map 0], [Obj.mp IntKind.i64 (Ty.int IntKind.i64) o0] => some (o0)
  | _, _ => none
theorem decAshadow_layer_int_each_ok (l : List AV) (H : List AE.Obj) (a : Ashadow_layer_int_each) (h : decAshadow_layer_int_each l H = some a) : (l, H) = argsshadow_layer_int_each a := by
  unfold decAshadow_layer_int_each at h
  split at h
  · cases h; rfl
  · cases h
def outshadow_layer_int_each : Ashadow_layer_int_each → (AV → List AE.Obj → Ans) → Yshadow_layer_int_each → Ans := fun o0 K => fun _ => K (AV.fn (Fn.func 35) [] [AV.ptr 1 0]) [Obj.mp IntKind.i64 (Ty.int IntKind.i64) o0, AE.Obj.cells [AV.map 0]]
theorem fnshadow_layer_int_each_ok (a : Ashadow_layer_int_each) (K : AV → List AE.Obj → Ans) : fnE Try.tab envshadow_layer_int_each noHint 0 70 30 Try.f30.ntmps Try.f30.results.toList annshadow_layer_int_each bshadow_layer_int_each (argsshadow_layer_int_each a).1 (argsshadow_layer_int_each a).2 K = fnshadow_layer_int_each a (outshadow_layer_int_each a K) := by kernel_rfl
def vFshadow_layer_int_each (a : Ashadow_layer_int_each) (K : AV → List AE.Obj → Ans) : Ans := bindO (fnDshadow_layer_int_each a) fun y => outshadow_layer_int_each a K y
def Fshadow_layer_int_each : List AV → List AE.Obj → (AV → List AE.Obj → Ans) → Ans := fun l H K => bindO (decAshadow_layer_int_each l H) fun a => vFshadow_layer_int_each a K
theorem Fshadow_layer_int_each_ok : FuncOk Try.prog 30 Fshadow_layer_int_each := func_mkD (hint := noHint) (d := 0) (n := 70) mixed tabOk envshadow_layer_int_eachOk Try.func30 (bodySome (by kernel_rfl)) (by decide +kernel) annshadow_layer_int_each_ok decAshadow_layer_int_each_ok fnshadow_layer_int_each_ok fnshadow_layer_int_each_nat
--@ shadow_Shadow_int_Back
noncomputable def envshadow_Shadow_int_Back : Env := []
theorem envshadow_Shadow_int_BackOk : EnvOk Try.prog envshadow_Shadow_int_Back := EnvOk.nil
noncomputable def bshadow_Shadow_int_Back : Code := Try.f18.body.getD .skip
noncomputable def annshadow_Shadow_int_Back : Ann := .none
theorem annshadow_Shadow_int_Back_ok : AnnOk Try.prog 8 bshadow_Shadow_int_Back annshadow_Shadow_int_Back := (annOk_none _ _ _)
abbrev Ashadow_Shadow_int_Back := (List (Int × Int))
abbrev Yshadow_Shadow_int_Back := Unit
def fnshadow_Shadow_int_Back {β : Type} : Ashadow_Shadow_int_Back → (Yshadow_Shadow_int_Back → Option β) → Option β := fun o1 exit => (exit ())
def fnDshadow_Shadow_int_Back (a : Ashadow_Shadow_int_Back) : Option Yshadow_Shadow_int_Back := fnshadow_Shadow_int_Back a some
theorem fnshadow_Shadow_int_Back_nat (a : Ashadow_Shadow_int_Back) (k : Yshadow_Shadow_int_Back → Ans) : fnshadow_Shadow_int_Back a k = bindO (fnDshadow_Shadow_int_Back a) k := by
  obtain z := a
  simp only [fnDshadow_Shadow_int_Back, fnshadow_Shadow_int_Back, bindO_cond, bindO_assoc, bindO_none, bindO_pure, bindO_elim, bindO_unP]
def argsshadow_Shadow_int_Back : Ashadow_Shadow_int_Back → List AV × List AE.Obj := fun o1 => ([AV.ptr 0 0], [AE.Obj.cells [AV.map 1, AV.unk], Obj.mp IntKind.i64 (Ty.int IntKind.i64) o1])
def decAshadow_Shadow_int_Back (l : List AV) (H : List AE.Obj) : Option Ashadow_Shadow_int_Back := match l, H with
  | [AV.ptr 0 0], [AE.Obj.cells [AV.map 1, AV.unk], Obj.mp IntKind.i64 (Ty.int IntKind.i64) o1] => some (o1)
  | _, _ => none
theorem decAshadow_Shadow_int_Back_ok (l : List AV) (H : List AE.Obj) (a : Ashadow_Shadow_int_Back) (h : decAshadow_Shadow_int_Back l H = some a) : (l, H) = argsshadow_Shadow_int_Back a := by
  unfold decAshadow_Shadow_int_Back at h
  split at h
  · cases h; rfl
  · cases h
def outshadow_Shadow_int_Back : Ashadow_Shadow_int_Back → (AV → List AE.Obj → Ans) → Yshadow_Shadow_int_Back → Ans := fun o1 K => fun _ => K (AV.tup []) [AE.Obj.cells [AV.map 1, AV.map 2], Obj.mp IntKind.i64 (Ty.int IntKind.i64) o1, Obj.mp IntKind.i64 (Ty.int IntKind.i64) ([])]
theorem fnshadow_Shadow_int_Back_ok (a : Ashadow_Shadow_int_Back) (K : AV → List AE.Obj → Ans) : fnE Try.tab envshadow_Shadow_int_Back noHint 0 70 18 Try.f18.ntmps Try.f18.results.toList annshadow_Shadow_int_Back bshadow_Shadow_int_Back (argsshadow_Shadow_int_Back a).1 (argsshadow_Shadow_int_Back a).2 K = fnshadow_Shadow_int_Back a (outshadow_Shadow_int_Back a K) := by kernel_rfl
def vFshadow_Shadow_int_Back (a : Ashadow_Shadow_int_Back) (K : AV → List AE.Obj → Ans) : Ans := bindO (fnDshadow_Shadow_int_Back a) fun y => outshadow_Shadow_int_Back a K y
def Fshadow_Shadow_int_Back : List AV → List AE.Obj → (AV → List AE.Obj → Ans) → Ans := fun l H K => bindO (decAshadow_Shadow_int_Back l H) fun a => vFshadow_Shadow_int_Back a K
theorem Fshadow_Shadow_int_Back_ok : FuncOk Try.prog 18 Fshadow_Shadow_int_Back := func_mkD (hint := noHint) (d := 0) (n := 70) mixed tabOk envshadow_Shadow_int_BackOk Try.func18 (bodySome (by kernel_rfl)) (by decide +kernel) annshadow_Shadow_int_Back_ok decAshadow_Shadow_int_Back_ok fnshadow_Shadow_int_Back_ok fnshadow_Shadow_int_Back_nat
--@ shadow_Shadow_int_Keep
noncomputable def envshadow_Shadow_int_Keep : Env := [(28, .func Fshadow_Shadow_int_made), (30, .func Fshadow_layer_int_each), (18, .func Fshadow_Shadow_int_Back), (100033, (.iter (eachBegin .str) (eachNext .str))), (100035, (.iter (eachBegin (.int .i64)) (eachNext (.int .i64))))]
theorem envshadow_Shadow_int_KeepOk : EnvOk Try.prog envshadow_Shadow_int_Keep := EnvOk.cons Fshadow_Shadow_int_made_ok (EnvOk.cons Fshadow_layer_int_each_ok (EnvOk.cons Fshadow_Shadow_int_Back_ok (EnvOk.cons iter33_spec (EnvOk.cons iter35_spec (EnvOk.nil)))))
noncomputable def bshadow_Shadow_int_Keep : Code := Try.f16.body.getD .skip
noncomputable def Lshadow_Shadow_int_Keep_n0 : Code := codeAt [1, 1, 1, 0, 1, 0] bshadow_Shadow_int_Keep
theorem Lshadow_Shadow_int_Keep_n0_eq : Lshadow_Shadow_int_Keep_n0 = .rangeFunc (rfG Lshadow_Shadow_int_Keep_n0) (rfPs Lshadow_Shadow_int_Keep_n0) (rfAs Lshadow_Shadow_int_Keep_n0) (rfC Lshadow_Shadow_int_Keep_n0) := by kernel_rfl
noncomputable def annLshadow_Shadow_int_Keep_n0 : Ann := .at 3 [1, 12, 23] (.loop .none)
theorem annLshadow_Shadow_int_Keep_n0_ok : cutP Try.prog 23 (rfC Lshadow_Shadow_int_Keep_n0) annLshadow_Shadow_int_Keep_n0.fst (AnnOk Try.prog 23 (rfC Lshadow_Shadow_int_Keep_n0) annLshadow_Shadow_int_Keep_n0.fst) := (annOk_none _ _ _)
abbrev Ishadow_Shadow_int_Keep_n0 := (List (Int × Int))
abbrev Yshadow_Shadow_int_Keep_n0 := (List (Int × Int))
abbrev Vshadow_Shadow_int_Keep_n0 := (List Int) × (List (Int × Int))
def Sshadow_Shadow_int_Keep_n0 : Ishadow_Shadow_int_Keep_n0 → Vshadow_Shadow_int_Keep_n0 → St := fun o2 (t23, o1) => { env := [(1, AV.ptr 3 0), (12, AV.fn (Fn.func 35) [] [AV.ptr 4 0]), (23, AV.gh t23)], stk := [[(0, AV.ptr 0 0)]], H := [AE.Obj.cells [AV.map 1, AV.unk], Obj.mp IntKind.i64 (Ty.int IntKind.i64) o1, Obj.mp IntKind.i64 (Ty.int IntKind.i64) o2, AE.Obj.cells [AV.ptr 0 0], AE.Obj.cells [AV.map 2]], blk := 65536 }
def decshadow_Shadow_int_Keep_n0 (s : St) : Option (Ishadow_Shadow_int_Keep_n0 × Vshadow_Shadow_int_Keep_n0) := match s with
  | { env := [(1, AV.ptr 3 0), (12, AV.fn (Fn.func 35) [] [AV.ptr 4 0]), (23, AV.gh t23)], stk := [[(0, AV.ptr 0 0)]], H := [AE.Obj.cells [AV.map 1, AV.unk], Obj.mp IntKind.i64 (Ty.int IntKind.i64) o1, Obj.mp IntKind.i64 (Ty.int IntKind.i64) o2, AE.Obj.cells [AV.ptr 0 0], AE.Obj.cells [AV.map 2]], blk := 65536 } => some (o2, (t23, o1))
  | _ => none
theorem decshadow_Shadow_int_Keep_n0_ok (s : St) (x : Ishadow_Shadow_int_Keep_n0 × Vshadow_Shadow_int_Keep_n0) (h : decshadow_Shadow_int_Keep_n0 s = some x) : s = Sshadow_Shadow_int_Keep_n0 x.1 x.2 := by
  unfold decshadow_Shadow_int_Keep_n0 at h
  split at h
  · cases h; rfl
  · cases h
def outshadow_Shadow_int_Keep_n0 : Ishadow_Shadow_int_Keep_n0 → (Ex → St → Ans) → Yshadow_Shadow_int_Keep_n0 → Ans := fun o2 K => fun o1_y => K (Ex.norm) { env := [(1, AV.ptr 3 0)], stk := [[(0, AV.ptr 0 0)]], H := [AE.Obj.cells [AV.map 1, AV.unk], Obj.mp IntKind.i64 (Ty.int IntKind.i64) o1_y, Obj.mp IntKind.i64 (Ty.int IntKind.i64) o2, AE.Obj.cells [AV.ptr 0 0]], blk := 65536 }
def stepshadow_Shadow_int_Keep_n0 {β : Type} : Ishadow_Shadow_int_Keep_n0 → Vshadow_Shadow_int_Keep_n0 → (Vshadow_Shadow_int_Keep_n0 → Option β) → (Yshadow_Shadow_int_Keep_n0 → Option β) → Option β := fun o2 (t23, o1) next exit => (bif isNil t23 then (exit (o1)) else (bindO (List.head? t23) fun x => (next (List.tail t23, mput x (mget x (0 : Int) o2) o1))))
def stepDshadow_Shadow_int_Keep_n0 (i : Ishadow_Shadow_int_Keep_n0) (v : Vshadow_Shadow_int_Keep_n0) : Option (Vshadow_Shadow_int_Keep_n0 ⊕ Yshadow_Shadow_int_Keep_n0) := stepshadow_Shadow_int_Keep_n0 i v (fun v => some (.inl v)) (fun y => some (.inr y))
theorem stepshadow_Shadow_int_Keep_n0_nat (i : Ishadow_Shadow_int_Keep_n0) (v : Vshadow_Shadow_int_Keep_n0) (next : Vshadow_Shadow_int_Keep_n0 → Ans) (exit : Yshadow_Shadow_int_Keep_n0 → Ans) : stepshadow_Shadow_int_Keep_n0 i v next exit = bindO (stepDshadow_Shadow_int_Keep_n0 i v) (Sum.elim next exit) := by
  obtain z := i
  obtain ⟨t23, o1⟩ := v
  simp only [stepDshadow_Shadow_int_Keep_n0, stepshadow_Shadow_int_Keep_n0, bindO_cond, bindO_assoc, bindO_none, bindO_pure, bindO_elim, bindO_unP, Sum.elim_inl, Sum.elim_inr]
theorem stepshadow_Shadow_int_Keep_n0_ok (n : Nat) (i : Ishadow_Shadow_int_Keep_n0) (v : Vshadow_Shadow_int_Keep_n0) (K : Ex → St → Ans) : codeI Try.tab envshadow_Shadow_int_Keep noHint (codeD Try.tab envshadow_Shadow_int_Keep noHint 0 64) (n+1) 23 (.rnd annLshadow_Shadow_int_Keep_n0) (.rangeFunc (rfG Lshadow_Shadow_int_Keep_n0) (rfPs Lshadow_Shadow_int_Keep_n0) (rfAs Lshadow_Shadow_int_Keep_n0) (rfC Lshadow_Shadow_int_Keep_n0)) (weakP 3 (exk [1] [] []) K) (Sshadow_Shadow_int_Keep_n0 i v) = stepshadow_Shadow_int_Keep_n0 i v (fun v' => codeI Try.tab envshadow_Shadow_int_Keep noHint (codeD Try.tab envshadow_Shadow_int_Keep noHint 0 64) n 23 (.rnd annLshadow_Shadow_int_Keep_n0) (.rangeFunc (rfG Lshadow_Shadow_int_Keep_n0) (rfPs Lshadow_Shadow_int_Keep_n0) (rfAs Lshadow_Shadow_int_Keep_n0) (rfC Lshadow_Shadow_int_Keep_n0)) (weakP 3 (exk [1] [] []) K) (Sshadow_Shadow_int_Keep_n0 i v')) (fun y => outshadow_Shadow_int_Keep_n0 i K y) := by kernel_rfl
theorem GNshadow_Shadow_int_Keep_n0_ok : RH Try.tab envshadow_Shadow_int_Keep 23 annLshadow_Shadow_int_Keep_n0 (.rangeFunc (rfG Lshadow_Shadow_int_Keep_n0) (rfPs Lshadow_Shadow_int_Keep_n0) (rfAs Lshadow_Shadow_int_Keep_n0) (rfC Lshadow_Shadow_int_Keep_n0)) 3 (exk [1] [] []) (sumL decshadow_Shadow_int_Keep_n0 stepDshadow_Shadow_int_Keep_n0 outshadow_Shadow_int_Keep_n0) := rh_loop decshadow_Shadow_int_Keep_n0_ok stepshadow_Shadow_int_Keep_n0_ok stepshadow_Shadow_int_Keep_n0_nat
noncomputable def Gshadow_Shadow_int_Keep_n0 : (Ex → St → Ans) → St → Ans := startG envshadow_Shadow_int_Keep 23 3 [1, 12, 23] (rfG Lshadow_Shadow_int_Keep_n0) (sumL decshadow_Shadow_int_Keep_n0 stepDshadow_Shadow_int_Keep_n0 outshadow_Shadow_int_Keep_n0)
theorem Gshadow_Shadow_int_Keep_n0_ok : CSum Try.prog 23 Lshadow_Shadow_int_Keep_n0 Gshadow_Shadow_int_Keep_n0 := csum_rh mixed tabOk envshadow_Shadow_int_KeepOk [1, 12, 23] Lshadow_Shadow_int_Keep_n0_eq annLshadow_Shadow_int_Keep_n0_ok GNshadow_Shadow_int_Keep_n0_ok
noncomputable def annshadow_Shadow_int_Keep : Ann := (.seq .none (.seq .none (.seq .none (.seq (.seq .none (.block (.cut 3 [1, 12] Gshadow_Shadow_int_Keep_n0))) .none))))
theorem annshadow_Shadow_int_Keep_ok : AnnOk Try.prog 23 bshadow_Shadow_int_Keep annshadow_Shadow_int_Keep := ⟨(annOk_none _ _ _), ⟨(annOk_none _ _ _), ⟨(annOk_none _ _ _), ⟨⟨(annOk_none _ _ _), Gshadow_Shadow_int_Keep_n0_ok⟩, (annOk_none _ _ _)⟩⟩⟩⟩
abbrev Ashadow_Shadow_int_Keep := (List (Int × Int)) × (List (Int × Int))
abbrev Yshadow_Shadow_int_Keep := (List (Int × Int))
def fnshadow_Shadow_int_Keep {β : Type} : Ashadow_Shadow_int_Keep → (Yshadow_Shadow_int_Keep → Option β) → Option β := fun (o1, o2) exit => (bindO (fnDshadow_Shadow_int_made (o1, o2)) fun _ => (bindO (fnDshadow_layer_int_each (o2)) fun _ => (bif Nat.ble (List.length o2) (1000000 : Nat) then (bindO (loopD (stepDshadow_Shadow_int_Keep_n0 (o2)) FUEL (keysOf o2, o1)) fun o1_2 => (bindO (fnDshadow_Shadow_int_Back (o1_2)) fun _ => (exit (o1_2)))) else none)))
def fnDshadow_Shadow_int_Keep (a : Ashadow_Shadow_int_Keep) : Option Yshadow_Shadow_int_Keep := fnshadow_Shadow_int_Keep a some
theorem fnshadow_Shadow_int_Keep_nat (a : Ashadow_Shadow_int_Keep) (k : Yshadow_Shadow_int_Keep → Ans) : fnshadow_Shadow_int_Keep a k = bindO (fnDshadow_Shadow_int_Keep a) k := by
  obtain ⟨o1, o2⟩ := a
  simp only [fnDshadow_Shadow_int_Keep, fnshadow_Shadow_int_Keep, bindO_cond, bindO_assoc, bindO_none, bindO_pure, bindO_elim, bindO_unP]
def argsshadow_Shadow_int_Keep : Ashadow_Shadow_int_Keep → List AV × List AE.Obj := fun (o1, o2) => ([AV.ptr 0 0], [AE.Obj.cells [AV.map 1, AV.map 2], Obj.mp IntKind.i64 (Ty.int IntKind.i64) o1, Obj.mp IntKind.i64 (Ty.int IntKind.i64) o2])
def decAshadow_Shadow_int_Keep (l : List AV) (H : List AE.Obj) : Option Ashadow_Shadow_int_Keep := match l, H with
  | [AV.ptr 0 0], [AE.Obj.cells [AV.map 1, AV.map 2], Obj.mp IntKind.i64 (Ty.int IntKind.i64) o1, Obj.mp IntKind.i64 (Ty.int IntKind.i64) o2] => some (o1, o2)
  | _, _ => none
theorem decAshadow_Shadow_int_Keep_ok (l : List AV) (H : List AE.Obj) (a : Ashadow_Shadow_int_Keep) (h : decAshadow_Shadow_int_Keep l H = some a) : (l, H) = argsshadow_Shadow_int_Keep a := by
  unfold decAshadow_Shadow_int_Keep at h
  split at h
  · cases h; rfl
  · cases h
def outshadow_Shadow_int_Keep : Ashadow_Shadow_int_Keep → (AV → List AE.Obj → Ans) → Yshadow_Shadow_int_Keep → Ans := fun (o1, o2) K => fun o1_y => K (AV.tup []) [AE.Obj.cells [AV.map 1, AV.map 3], Obj.mp IntKind.i64 (Ty.int IntKind.i64) o1_y, Obj.mp IntKind.i64 (Ty.int IntKind.i64) o2, Obj.mp IntKind.i64 (Ty.int IntKind.i64) ([])]
theorem fnshadow_Shadow_int_Keep_ok (a : Ashadow_Shadow_int_Keep) (K : AV → List AE.Obj → Ans) : fnE Try.tab envshadow_Shadow_int_Keep noHint 0 70 16 Try.f16.ntmps Try.f16.results.toList annshadow_Shadow_int_Keep bshadow_Shadow_int_Keep (argsshadow_Shadow_int_Keep a).1 (argsshadow_Shadow_int_Keep a).2 K = fnshadow_Shadow_int_Keep a (outshadow_Shadow_int_Keep a K) := by kernel_rfl
def vFshadow_Shadow_int_Keep (a : Ashadow_Shadow_int_Keep) (K : AV → List AE.Obj → Ans) : Ans := bindO (fnDshadow_Shadow_int_Keep a) fun y => outshadow_Shadow_int_Keep a K y
def Fshadow_Shadow_int_Keep : List AV → List AE.Obj → (AV → List AE.Obj → Ans) → Ans := fun l H K => bindO (decAshadow_Shadow_int_Keep l H) fun a => vFshadow_Shadow_int_Keep a K
theorem Fshadow_Shadow_int_Keep_ok : FuncOk Try.prog 16 Fshadow_Shadow_int_Keep := func_mkD (hint := noHint) (d := 0) (n := 70) mixed tabOk envshadow_Shadow_int_KeepOk Try.func16 (bodySome (by kernel_rfl)) (by decide +kernel) annshadow_Shadow_int_Keep_ok decAshadow_Shadow_int_Keep_ok fnshadow_Shadow_int_Keep_ok fnshadow_Shadow_int_Keep_nat
--@ shadow_Shadow_int_Get
noncomputable def envshadow_Shadow_int_Get : Env := []
theorem envshadow_Shadow_int_GetOk : EnvOk Try.prog envshadow_Shadow_int_Get := EnvOk.nil
noncomputable def bshadow_Shadow_int_Get : Code := Try.f20.body.getD .skip
noncomputable def annshadow_Shadow_int_Get : Ann := .none
theorem annshadow_Shadow_int_Get_ok : AnnOk Try.prog 36 bshadow_Shadow_int_Get annshadow_Shadow_int_Get := (annOk_none _ _ _)
abbrev Ashadow_Shadow_int_Get := (Int) × (List (Int × Int)) × (List (Int × Int))
abbrev Yshadow_Shadow_int_Get := (Int) × (Bool)
def fnshadow_Shadow_int_Get {β : Type} : Ashadow_Shadow_int_Get → (Yshadow_Shadow_int_Get → Option β) → Option β := fun (a1, o1, o2) exit => (bif mhas a1 o2 then (exit (mget a1 (0 : Int) o2, true)) else (exit (mget a1 (0 : Int) o1, mhas a1 o1)))
def fnDshadow_Shadow_int_Get (a : Ashadow_Shadow_int_Get) : Option Yshadow_Shadow_int_Get := fnshadow_Shadow_int_Get a some
theorem fnshadow_Shadow_int_Get_nat (a : Ashadow_Shadow_int_Get) (k : Yshadow_Shadow_int_Get → Ans) : fnshadow_Shadow_int_Get a k = bindO (fnDshadow_Shadow_int_Get a) k := by
  obtain ⟨a1, o1, o2⟩ := a
  simp only [fnDshadow_Shadow_int_Get, fnshadow_Shadow_int_Get, bindO_cond, bindO_assoc, bindO_none, bindO_pure, bindO_elim, bindO_unP]
def argsshadow_Shadow_int_Get : Ashadow_Shadow_int_Get → List AV × List AE.Obj := fun (a1, o1, o2) => ([AV.ptr 0 0, AV.int IntKind.i64 a1], [AE.Obj.cells [AV.map 1, AV.map 2], Obj.mp IntKind.i64 (Ty.int IntKind.i64) o1, Obj.mp IntKind.i64 (Ty.int IntKind.i64) o2])
def decAshadow_Shadow_int_Get (l : List AV) (H : List AE.Obj) : Option Ashadow_Shadow_int_Get := match l, H with
  | [AV.ptr 0 0, AV.int IntKind.i64 a1], [AE.Obj.cells [AV.map 1, AV.map 2], Obj.mp IntKind.i64 (Ty.int IntKind.i64) o1, Obj.mp IntKind.i64 (Ty.int IntKind.i64) o2] => some (a1, o1, o2)
  | _, _ => none
theorem decAshadow_Shadow_int_Get_ok (l : List AV) (H : List AE.Obj) (a : Ashadow_Shadow_int_Get) (h : decAshadow_Shadow_int_Get l H = some a) : (l, H) = argsshadow_Shadow_int_Get a := by
  unfold decAshadow_Shadow_int_Get at h
  split at h
  · cases h; rfl
  · cases h
def outshadow_Shadow_int_Get : Ashadow_Shadow_int_Get → (AV → List AE.Obj → Ans) → Yshadow_Shadow_int_Get → Ans := fun (a1, o1, o2) K => unP fun r_0_y r_1_y => K (AV.tup [AV.int IntKind.i64 r_0_y, AV.bool r_1_y]) [AE.Obj.cells [AV.map 1, AV.map 2], Obj.mp IntKind.i64 (Ty.int IntKind.i64) o1, Obj.mp IntKind.i64 (Ty.int IntKind.i64) o2]
theorem fnshadow_Shadow_int_Get_ok (a : Ashadow_Shadow_int_Get) (K : AV → List AE.Obj → Ans) : fnE Try.tab envshadow_Shadow_int_Get noHint 0 70 20 Try.f20.ntmps Try.f20.results.toList annshadow_Shadow_int_Get bshadow_Shadow_int_Get (argsshadow_Shadow_int_Get a).1 (argsshadow_Shadow_int_Get a).2 K = fnshadow_Shadow_int_Get a (outshadow_Shadow_int_Get a K) := by kernel_rfl
def vFshadow_Shadow_int_Get (a : Ashadow_Shadow_int_Get) (K : AV → List AE.Obj → Ans) : Ans := bindO (fnDshadow_Shadow_int_Get a) fun y => outshadow_Shadow_int_Get a K y
def Fshadow_Shadow_int_Get : List AV → List AE.Obj → (AV → List AE.Obj → Ans) → Ans := fun l H K => bindO (decAshadow_Shadow_int_Get l H) fun a => vFshadow_Shadow_int_Get a K
theorem Fshadow_Shadow_int_Get_ok : FuncOk Try.prog 20 Fshadow_Shadow_int_Get := func_mkD (hint := noHint) (d := 0) (n := 70) mixed tabOk envshadow_Shadow_int_GetOk Try.func20 (bodySome (by kernel_rfl)) (by decide +kernel) annshadow_Shadow_int_Get_ok decAshadow_Shadow_int_Get_ok fnshadow_Shadow_int_Get_ok fnshadow_Shadow_int_Get_nat
--@ shadow_Shadow_int_Back_2
noncomputable def envshadow_Shadow_int_Back_2 : Env := []
theorem envshadow_Shadow_int_Back_2Ok : EnvOk Try.prog envshadow_Shadow_int_Back_2 := EnvOk.nil
noncomputable def bshadow_Shadow_int_Back_2 : Code := Try.f18.body.getD .skip
noncomputable def annshadow_Shadow_int_Back_2 : Ann := .none
theorem annshadow_Shadow_int_Back_2_ok : AnnOk Try.prog 8 bshadow_Shadow_int_Back_2 annshadow_Shadow_int_Back_2 := (annOk_none _ _ _)
abbrev Ashadow_Shadow_int_Back_2 := (List (Int × Int)) × (List (Int × Int))
abbrev Yshadow_Shadow_int_Back_2 := Unit
def fnshadow_Shadow_int_Back_2 {β : Type} : Ashadow_Shadow_int_Back_2 → (Yshadow_Shadow_int_Back_2 → Option β) → Option β := fun (o1, o2) exit => (exit ())
def fnDshadow_Shadow_int_Back_2 (a : Ashadow_Shadow_int_Back_2) : Option Yshadow_Shadow_int_Back_2 := fnshadow_Shadow_int_Back_2 a some
theorem fnshadow_Shadow_int_Back_2_nat (a : Ashadow_Shadow_int_Back_2) (k : Yshadow_Shadow_int_Back_2 → Ans) : fnshadow_Shadow_int_Back_2 a k = bindO (fnDshadow_Shadow_int_Back_2 a) k := by
  obtain ⟨o1, o2⟩ := a
  simp only [fnDshadow_Shadow_int_Back_2, fnshadow_Shadow_int_Back_2, bindO_cond, bindO_assoc, bindO_none, bindO_pure, bindO_elim, bindO_unP]
def argsshadow_Shadow_int_Back_2 : Ashadow_Shadow_int_Back_2 → List AV × List AE.Obj := fun (o1, o2) => ([AV.ptr 0 0], [AE.Obj.cells [AV.map 1, AV.map 2], Obj.mp IntKind.i64 (Ty.int IntKind.i64) o1, Obj.mp IntKind.i64 (Ty.int IntKind.i64) o2])
def decAshadow_Shadow_int_Back_2 (l : List AV) (H : List AE.Obj) : Option Ashadow_Shadow_int_Back_2 := match l, H with
  | [AV.ptr 0 0], [AE.Obj.cells [AV.map 1, AV.map 2], Obj.mp IntKind.i64 (Ty.int IntKind.i64) o1, Obj.mp IntKind.i64 (Ty.int IntKind.i64) o2] => some (o1, o2)
  | _, _ => none
theorem decAshadow_Shadow_int_Back_2_ok (l : List AV) (H : List AE.Obj) (a : Ashadow_Shadow_int_Back_2) (h : decAshadow_Shadow_int_Back_2 l H = some a) : (l, H) = argsshadow_Shadow_int_Back_2 a := by
  unfold decAshadow_Shadow_int_Back_2 at h
  split at h
  · cases h; rfl
  · cases h
def outshadow_Shadow_int_Back_2 : Ashadow_Shadow_int_Back_2 → (AV → List AE.Obj → Ans) → Yshadow_Shadow_int_Back_2 → Ans := fun (o1, o2) K => fun _ => K (AV.tup []) [AE.Obj.cells [AV.map 1, AV.map 3], Obj.mp IntKind.i64 (Ty.int IntKind.i64) o1, Obj.mp IntKind.i64 (Ty.int IntKind.i64) o2, Obj.mp IntKind.i64 (Ty.int IntKind.i64) ([])]
theorem fnshadow_Shadow_int_Back_2_ok (a : Ashadow_Shadow_int_Back_2) (K : AV → List AE.Obj → Ans) : fnE Try.tab envshadow_Shadow_int_Back_2 noHint 0 70 18 Try.f18.ntmps Try.f18.results.toList annshadow_Shadow_int_Back_2 bshadow_Shadow_int_Back_2 (argsshadow_Shadow_int_Back_2 a).1 (argsshadow_Shadow_int_Back_2 a).2 K = fnshadow_Shadow_int_Back_2 a (outshadow_Shadow_int_Back_2 a K) := by kernel_rfl
def vFshadow_Shadow_int_Back_2 (a : Ashadow_Shadow_int_Back_2) (K : AV → List AE.Obj → Ans) : Ans := bindO (fnDshadow_Shadow_int_Back_2 a) fun y => outshadow_Shadow_int_Back_2 a K y
def Fshadow_Shadow_int_Back_2 : List AV → List AE.Obj → (AV → List AE.Obj → Ans) → Ans := fun l H K => bindO (decAshadow_Shadow_int_Back_2 l H) fun a => vFshadow_Shadow_int_Back_2 a K
theorem Fshadow_Shadow_int_Back_2_ok : FuncOk Try.prog 18 Fshadow_Shadow_int_Back_2 := func_mkD (hint := noHint) (d := 0) (n := 70) mixed tabOk envshadow_Shadow_int_Back_2Ok Try.func18 (bodySome (by kernel_rfl)) (by decide +kernel) annshadow_Shadow_int_Back_2_ok decAshadow_Shadow_int_Back_2_ok fnshadow_Shadow_int_Back_2_ok fnshadow_Shadow_int_Back_2_nat
--@ shadow_Shadow_int_Loose
noncomputable def envshadow_Shadow_int_Loose : Env := []
theorem envshadow_Shadow_int_LooseOk : EnvOk Try.prog envshadow_Shadow_int_Loose := EnvOk.nil
noncomputable def bshadow_Shadow_int_Loose : Code := Try.f22.body.getD .skip
noncomputable def annshadow_Shadow_int_Loose : Ann := .none
theorem annshadow_Shadow_int_Loose_ok : AnnOk Try.prog 10 bshadow_Shadow_int_Loose annshadow_Shadow_int_Loose := (annOk_none _ _ _)
abbrev Ashadow_Shadow_int_Loose := (List (Int × Int)) × (List (Int × Int))
abbrev Yshadow_Shadow_int_Loose := (Int)
def fnshadow_Shadow_int_Loose {β : Type} : Ashadow_Shadow_int_Loose → (Yshadow_Shadow_int_Loose → Option β) → Option β := fun (o1, o2) exit => (exit ((↑(List.length o2) : Int)))
def fnDshadow_Shadow_int_Loose (a : Ashadow_Shadow_int_Loose) : Option Yshadow_Shadow_int_Loose := fnshadow_Shadow_int_Loose a some
theorem fnshadow_Shadow_int_Loose_nat (a : Ashadow_Shadow_int_Loose) (k : Yshadow_Shadow_int_Loose → Ans) : fnshadow_Shadow_int_Loose a k = bindO (fnDshadow_Shadow_int_Loose a) k := by
  obtain ⟨o1, o2⟩ := a
  simp only [fnDshadow_Shadow_int_Loose, fnshadow_Shadow_int_Loose, bindO_cond, bindO_assoc, bindO_none, bindO_pure, bindO_elim, bindO_unP]
def argsshadow_Shadow_int_Loose : Ashadow_Shadow_int_Loose → List AV × List AE.Obj := fun (o1, o2) => ([AV.ptr 0 0], [AE.Obj.cells [AV.map 1, AV.map 2], Obj.mp IntKind.i64 (Ty.int IntKind.i64) o1, Obj.mp IntKind.i64 (Ty.int IntKind.i64) o2])
def decAshadow_Shadow_int_Loose (l : List AV) (H : List AE.Obj) : Option Ashadow_Shadow_int_Loose := match l, H with
  | [AV.ptr 0 0], [AE.Obj.cells [AV.map 1, AV.map 2], Obj.mp IntKind.i64 (Ty.int IntKind.i64) o1, Obj.mp IntKind.i64 (Ty.int IntKind.i64) o2] => some (o1, o2)
  | _, _ => none
theorem decAshadow_Shadow_int_Loose_ok (l : List AV) (H : List AE.Obj) (a : Ashadow_Shadow_int_Loose) (h : decAshadow_Shadow_int_Loose l H = some a) : (l, H) = argsshadow_Shadow_int_Loose a := by
  unfold decAshadow_Shadow_int_Loose at h
  split at h
  · cases h; rfl
  · cases h
def outshadow_Shadow_int_Loose : Ashadow_Shadow_int_Loose → (AV → List AE.Obj → Ans) → Yshadow_Shadow_int_Loose → Ans := fun (o1, o2) K => fun r_y => K (AV.int IntKind.i64 r_y) [AE.Obj.cells [AV.map 1, AV.map 2], Obj.mp IntKind.i64 (Ty.int IntKind.i64) o1, Obj.mp IntKind.i64 (Ty.int IntKind.i64) o2]
theorem fnshadow_Shadow_int_Loose_ok (a : Ashadow_Shadow_int_Loose) (K : AV → List AE.Obj → Ans) : fnE Try.tab envshadow_Shadow_int_Loose noHint 0 70 22 Try.f22.ntmps Try.f22.results.toList annshadow_Shadow_int_Loose bshadow_Shadow_int_Loose (argsshadow_Shadow_int_Loose a).1 (argsshadow_Shadow_int_Loose a).2 K = fnshadow_Shadow_int_Loose a (outshadow_Shadow_int_Loose a K) := by kernel_rfl
def vFshadow_Shadow_int_Loose (a : Ashadow_Shadow_int_Loose) (K : AV → List AE.Obj → Ans) : Ans := bindO (fnDshadow_Shadow_int_Loose a) fun y => outshadow_Shadow_int_Loose a K y
def Fshadow_Shadow_int_Loose : List AV → List AE.Obj → (AV → List AE.Obj → Ans) → Ans := fun l H K => bindO (decAshadow_Shadow_int_Loose l H) fun a => vFshadow_Shadow_int_Loose a K
theorem Fshadow_Shadow_int_Loose_ok : FuncOk Try.prog 22 Fshadow_Shadow_int_Loose := func_mkD (hint := noHint) (d := 0) (n := 70) mixed tabOk envshadow_Shadow_int_LooseOk Try.func22 (bodySome (by kernel_rfl)) (by decide +kernel) annshadow_Shadow_int_Loose_ok decAshadow_Shadow_int_Loose_ok fnshadow_Shadow_int_Loose_ok fnshadow_Shadow_int_Loose_nat
--@ law13_works
noncomputable def envlaw13_works : Env := [(13, .func Fshadow_New_int), (14, .func Fshadow_Shadow_int_Put), (16, .func Fshadow_Shadow_int_Keep), (20, .func Fshadow_Shadow_int_Get), (18, .func Fshadow_Shadow_int_Back_2), (22, .func Fshadow_Shadow_int_Loose)]
theorem envlaw13_worksOk : EnvOk Try.prog envlaw13_works := EnvOk.cons Fshadow_New_int_ok (EnvOk.cons Fshadow_Shadow_int_Put_ok (EnvOk.cons Fshadow_Shadow_int_Keep_ok (EnvOk.cons Fshadow_Shadow_int_Get_ok (EnvOk.cons Fshadow_Shadow_int_Back_2_ok (EnvOk.cons Fshadow_Shadow_int_Loose_ok (EnvOk.nil))))))
noncomputable def blaw13_works : Code := Try.f6.body.getD .skip
noncomputable def Llaw13_works_n0 : Code := codeAt [1, 1, 1, 1, 1, 1, 1, 1, 0] blaw13_works
noncomputable def annLlaw13_works_n0 : Ann := .none
theorem annLlaw13_works_n0_ok : AnnOk Try.prog 42 Llaw13_works_n0 annLlaw13_works_n0 := (annOk_none _ _ _)
abbrev Ilaw13_works_n0 := (Int) × (Bool) × (Int) × (Bool) × (List (Int × Int))
abbrev Ylaw13_works_n0 := (Bool)
def Slaw13_works_n0 : Ilaw13_works_n0 → St := fun (t2, t3, t4, t5, o1) => { env := [(1, AV.ptr 0 0), (2, AV.int IntKind.i64 t2), (3, AV.bool t3), (4, AV.int IntKind.i64 t4), (5, AV.bool t5)], stk := [[]], H := [AE.Obj.cells [AV.map 1, AV.map 2], Obj.mp IntKind.i64 (Ty.int IntKind.i64) o1, Obj.mp IntKind.i64 (Ty.int IntKind.i64) ([])], blk := 24576 }
def declaw13_works_n0 (s : St) : Option Ilaw13_works_n0 := match s with
  | { env := [(1, AV.ptr 0 0), (2, AV.int IntKind.i64 t2), (3, AV.bool t3), (4, AV.int IntKind.i64 t4), (5, AV.bool t5)], stk := [[]], H := [AE.Obj.cells [AV.map 1, AV.map 2], Obj.mp IntKind.i64 (Ty.int IntKind.i64) o1, Obj.mp IntKind.i64 (Ty.int IntKind.i64) r5], blk := 24576 } => cond (decide (r5 = [])) (some (t2, t3, t4, t5, o1)) none
  | _ => none
theorem declaw13_works_n0_ok (s : St) (x : Ilaw13_works_n0) (h : declaw13_works_n0 s = some x) : s = Slaw13_works_n0 x := by
  unfold declaw13_works_n0 at h
  split at h
  · replace h := cond_noneO h; obtain ⟨hg, h⟩ := h; simp only [Bool.and_eq_true, decide_eq_true_eq] at hg; simp only [hg]; cases h; rfl
  · cases h
def outlaw13_works_n0 : Ilaw13_works_n0 → (Ex → St → Ans) → Ylaw13_works_n0 → Ans := fun (t2, t3, t4, t5, o1) K => fun t0_y => K (Ex.norm) { env := [(0, AV.bool t0_y)], stk := [[]], H := [], blk := 24576 }
def nodelaw13_works_n0 {β : Type} : Ilaw13_works_n0 → (Ylaw13_works_n0 → Option β) → Option β := fun (t2, t3, t4, t5, o1) exit => (bif t2 == (6 : Int) then (bif t3 then (bif t4 == (5 : Int) then (bif t5 then (bindO (fnDshadow_Shadow_int_Loose (o1, [])) fun r => (exit (r == (0 : Int)))) else (exit (false))) else (exit (false))) else (exit (false))) else (exit (false)))
def nodeDlaw13_works_n0 (i : Ilaw13_works_n0) : Option Ylaw13_works_n0 := nodelaw13_works_n0 i some
theorem nodelaw13_works_n0_nat (i : Ilaw13_works_n0) (k : Ylaw13_works_n0 → Ans) : nodelaw13_works_n0 i k = bindO (nodeDlaw13_works_n0 i) k := by
  obtain ⟨t2, t3, t4, t5, o1⟩ := i
  simp only [nodeDlaw13_works_n0, nodelaw13_works_n0, bindO_cond, bindO_assoc, bindO_none, bindO_pure, bindO_elim, bindO_unP]
theorem nodelaw13_works_n0_ok (i : Ilaw13_works_n0) (K : Ex → St → Ans) : codeI Try.tab envlaw13_works noHint (codeD Try.tab envlaw13_works noHint 0 64) 70 42 annLlaw13_works_n0 Llaw13_works_n0 (weakP 0 (exk [0] [0] []) K) (Slaw13_works_n0 i) = nodelaw13_works_n0 i (outlaw13_works_n0 i K) := by kernel_rfl
theorem GNlaw13_works_n0_ok : CSum Try.prog 42 Llaw13_works_n0 (sumN declaw13_works_n0 nodeDlaw13_works_n0 outlaw13_works_n0) := csum_node mixed tabOk envlaw13_worksOk 0 (exk [0] [0] []) annLlaw13_works_n0_ok declaw13_works_n0_ok nodelaw13_works_n0_ok nodelaw13_works_n0_nat
noncomputable def Glaw13_works_n0 : (Ex → St → Ans) → St → Ans := (sumN declaw13_works_n0 nodeDlaw13_works_n0 outlaw13_works_n0)
theorem Glaw13_works_n0_ok : CSum Try.prog 42 Llaw13_works_n0 Glaw13_works_n0 := GNlaw13_works_n0_ok
noncomputable def annlaw13_works : Ann := (.seq .none (.seq .none (.seq .none (.seq .none (.seq .none (.seq .none (.seq .none (.seq .none (.seq (.cut 0 [1, 2, 3, 4, 5] Glaw13_works_n0) .none)))))))))
theorem annlaw13_works_ok : AnnOk Try.prog 42 blaw13_works annlaw13_works := ⟨(annOk_none _ _ _), ⟨(annOk_none _ _ _), ⟨(annOk_none _ _ _), ⟨(annOk_none _ _ _), ⟨(annOk_none _ _ _), ⟨(annOk_none _ _ _), ⟨(annOk_none _ _ _), ⟨(annOk_none _ _ _), ⟨Glaw13_works_n0_ok, (annOk_none _ _ _)⟩⟩⟩⟩⟩⟩⟩⟩⟩
abbrev Alaw13_works := Unit
abbrev Ylaw13_works := (Bool)
def fnlaw13_works {β : Type} : Alaw13_works → (Ylaw13_works → Option β) → Option β := fun _ exit => (bindO (fnDshadow_New_int ()) fun _ => (bindO (fnDshadow_Shadow_int_Put ((3 : Int), (5 : Int), [], [])) fun o2 => (bindO (fnDshadow_Shadow_int_Keep ([], o2)) fun o1 => (bindO (fnDshadow_Shadow_int_Put ((3 : Int), (6 : Int), o1, [])) fun o2_2 => (bindO (fnDshadow_Shadow_int_Get ((3 : Int), o1, o2_2)) (unP fun r_0 r_1 => (bindO (fnDshadow_Shadow_int_Back_2 (o1, o2_2)) fun _ => (bindO (fnDshadow_Shadow_int_Get ((3 : Int), o1, [])) (unP fun r_0_2 r_1_2 => (bindO (nodeDlaw13_works_n0 (r_0, r_1, r_0_2, r_1_2, o1)) fun t0 => (exit (t0))))))))))))
def fnDlaw13_works (a : Alaw13_works) : Option Ylaw13_works := fnlaw13_works a some
theorem fnlaw13_works_nat (a : Alaw13_works) (k : Ylaw13_works → Ans) : fnlaw13_works a k = bindO (fnDlaw13_works a) k := by
  obtain z := a
  simp only [fnDlaw13_works, fnlaw13_works, bindO_cond, bindO_assoc, bindO_none, bindO_pure, bindO_elim, bindO_unP]
def argslaw13_works : Alaw13_works → List AV := fun _ => []
def decAlaw13_works (l : List AV) : Option Alaw13_works := match l with
  | [] => some ()
  | _ => none
theorem decAlaw13_works_ok (l : List AV) (a : Alaw13_works) (h : decAlaw13_works l = some a) : l = argslaw13_works a := by
  unfold decAlaw13_works at h
  split at h
  · cases h; rfl
  · cases h
def rendlaw13_works : Alaw13_works → Ylaw13_works → AV := fun _ => fun r_y => AV.bool r_y
theorem rendlaw13_works_ok : ∀ (a : Alaw13_works) (y : Ylaw13_works), (rendlaw13_works a y).closed1 = true := by
  rintro z y <;> first | rfl | exact Empty.elim y
theorem fnlaw13_works_ok (a : Alaw13_works) : fnE Try.tab envlaw13_works noHint 0 70 6 Try.f6.ntmps Try.f6.results.toList annlaw13_works blaw13_works (argslaw13_works a) [] (fun v _ => some (v, [])) = fnlaw13_works a (fun y => some (rendlaw13_works a y, [])) := by kernel_rfl
def vFlaw13_works (a : Alaw13_works) (K : AV → Ans) : Ans := bindO (fnDlaw13_works a) fun y => K (rendlaw13_works a y)
def Flaw13_works : List AV → (AV → Ans) → Ans := fun l K => bindO (decAlaw13_works l) fun a => vFlaw13_works a K
theorem Flaw13_works_ok : PureOk Try.prog 6 Flaw13_works := pure_mkD (hint := noHint) (d := 0) (n := 70) mixed tabOk envlaw13_worksOk Try.func6 (bodySome (by kernel_rfl)) (by decide +kernel) annlaw13_works_ok decAlaw13_works_ok fnlaw13_works_ok fnlaw13_works_nat rendlaw13_works_ok
--@ shadow_New_string
noncomputable def envshadow_New_string : Env := []
theorem envshadow_New_stringOk : EnvOk Try.prog envshadow_New_string := EnvOk.nil
noncomputable def bshadow_New_string : Code := Try.f7.body.getD .skip
noncomputable def annshadow_New_string : Ann := .none
theorem annshadow_New_string_ok : AnnOk Try.prog 5 bshadow_New_string annshadow_New_string := (annOk_none _ _ _)
abbrev Ashadow_New_string := Unit
abbrev Yshadow_New_string := Unit
def fnshadow_New_string {β : Type} : Ashadow_New_string → (Yshadow_New_string → Option β) → Option β := fun _ exit => (exit ())
def fnDshadow_New_string (a : Ashadow_New_string) : Option Yshadow_New_string := fnshadow_New_string a some
theorem fnshadow_New_string_nat (a : Ashadow_New_string) (k : Yshadow_New_string → Ans) : fnshadow_New_string a k = bindO (fnDshadow_New_string a) k := by
  obtain z := a
  simp only [fnDshadow_New_string, fnshadow_New_string, bindO_cond, bindO_assoc, bindO_none, bindO_pure, bindO_elim, bindO_unP]
def argsshadow_New_string : Ashadow_New_string → List AV × List AE.Obj := fun _ => ([], [])
def decAshadow_New_string (l : List AV) (H : List AE.Obj) : Option Ashadow_New_string := match l, H with
  | [], [] => some ()
  | _, _ => none
theorem decAshadow_New_string_ok (l : List AV) (H : List AE.Obj) (a : Ashadow_New_string) (h : decAshadow_New_string l H = some a) : (l, H) = argsshadow_New_string a := by
  unfold decAshadow_New_string at h
  split at h
  · cases h; rfl
  · cases h
def outshadow_New_string : Ashadow_New_string → (AV → List AE.Obj → Ans) → Yshadow_New_string → Ans := fun _ K => fun _ => K (AV.ptr 0 0) [AE.Obj.cells [AV.map 1, AV.map 2], Obj.mp IntKind.i64 Ty.str ([]), Obj.mp IntKind.i64 Ty.str ([])]
theorem fnshadow_New_string_ok (a : Ashadow_New_string) (K : AV → List AE.Obj → Ans) : fnE Try.tab envshadow_New_string noHint 0 70 7 Try.f7.ntmps Try.f7.results.toList annshadow_New_string bshadow_New_string (argsshadow_New_string a).1 (argsshadow_New_string a).2 K = fnshadow_New_string a (outshadow_New_string a K) := by kernel_rfl
def vFshadow_New_string (a : Ashadow_New_string) (K : AV → List AE.Obj → Ans) : Ans := bindO (fnDshadow_New_string a) fun y => outshadow_New_string a K y
def Fshadow_New_string : List AV → List AE.Obj → (AV → List AE.Obj → Ans) → Ans := fun l H K => bindO (decAshadow_New_string l H) fun a => vFshadow_New_string a K
theorem Fshadow_New_string_ok : FuncOk Try.prog 7 Fshadow_New_string := func_mkD (hint := noHint) (d := 0) (n := 70) mixed tabOk envshadow_New_stringOk Try.func7 (bodySome (by kernel_rfl)) (by decide +kernel) annshadow_New_string_ok decAshadow_New_string_ok fnshadow_New_string_ok fnshadow_New_string_nat
--@ shadow_Shadow_string_made
noncomputable def envshadow_Shadow_string_made : Env := []
theorem envshadow_Shadow_string_madeOk : EnvOk Try.prog envshadow_Shadow_string_made := EnvOk.nil
noncomputable def bshadow_Shadow_string_made : Code := Try.f26.body.getD .skip
noncomputable def Lshadow_Shadow_string_made_n0 : Code := codeAt [0, 1] bshadow_Shadow_string_made
noncomputable def annLshadow_Shadow_string_made_n0 : Ann := .none
theorem annLshadow_Shadow_string_made_n0_ok : AnnOk Try.prog 20 Lshadow_Shadow_string_made_n0 annLshadow_Shadow_string_made_n0 := (annOk_none _ _ _)
abbrev Ishadow_Shadow_string_made_n0 := (List (Int × List UInt8)) × (List (Int × List UInt8))
abbrev Yshadow_Shadow_string_made_n0 := Unit
def Sshadow_Shadow_string_made_n0 : Ishadow_Shadow_string_made_n0 → St := fun (o1, o2) => { env := [(0, AV.ptr 0 0), (6, AV.bool (false))], stk := [[(0, AV.ptr 0 0)]], H := [AE.Obj.cells [AV.map 1, AV.map 2], Obj.mp IntKind.i64 Ty.str o1, Obj.mp IntKind.i64 Ty.str o2], blk := 106496 }
def decshadow_Shadow_string_made_n0 (s : St) : Option Ishadow_Shadow_string_made_n0 := match s with
  | { env := [(0, AV.ptr 0 0), (6, AV.bool r0)], stk := [[(0, AV.ptr 0 0)]], H := [AE.Obj.cells [AV.map 1, AV.map 2], Obj.mp IntKind.i64 Ty.str o1, Obj.mp IntKind.i64 Ty.str o2], blk := 106496 } => cond (decide (r0 = false)) (some (o1, o2)) none
  | _ => none
theorem decshadow_Shadow_string_made_n0_ok (s : St) (x : Ishadow_Shadow_string_made_n0) (h : decshadow_Shadow_string_made_n0 s = some x) : s = Sshadow_Shadow_string_made_n0 x := by
  unfold decshadow_Shadow_string_made_n0 at h
  split at h
  · replace h := cond_noneO h; obtain ⟨hg, h⟩ := h; simp only [Bool.and_eq_true, decide_eq_true_eq] at hg; simp only [hg]; cases h; rfl
  · cases h
def outshadow_Shadow_string_made_n0 : Ishadow_Shadow_string_made_n0 → (Ex → St → Ans) → Yshadow_Shadow_string_made_n0 → Ans := fun (o1, o2) K => fun _ => K (Ex.norm) { env := [(0, AV.ptr 0 0)], stk := [[(0, AV.ptr 0 0)]], H := [AE.Obj.cells [AV.map 1, AV.map 2], Obj.mp IntKind.i64 Ty.str o1, Obj.mp IntKind.i64 Ty.str o2], blk := 106496 }
def nodeshadow_Shadow_string_made_n0 {β : Type} : Ishadow_Shadow_string_made_n0 → (Yshadow_Shadow_string_made_n0 → Option β) → Option β := fun (o1, o2) exit => (exit ())
def nodeDshadow_Shadow_string_made_n0 (i : Ishadow_Shadow_string_made_n0) : Option Yshadow_Shadow_string_made_n0 := nodeshadow_Shadow_string_made_n0 i some
theorem nodeshadow_Shadow_string_made_n0_nat (i : Ishadow_Shadow_string_made_n0) (k : Yshadow_Shadow_string_made_n0 → Ans) : nodeshadow_Shadow_string_made_n0 i k = bindO (nodeDshadow_Shadow_string_made_n0 i) k := by
  obtain ⟨o1, o2⟩ := i
  simp only [nodeDshadow_Shadow_string_made_n0, nodeshadow_Shadow_string_made_n0, bindO_cond, bindO_assoc, bindO_none, bindO_pure, bindO_elim, bindO_unP]
theorem nodeshadow_Shadow_string_made_n0_ok (i : Ishadow_Shadow_string_made_n0) (K : Ex → St → Ans) : codeI Try.tab envshadow_Shadow_string_made noHint (codeD Try.tab envshadow_Shadow_string_made noHint 0 64) 70 20 annLshadow_Shadow_string_made_n0 Lshadow_Shadow_string_made_n0 (weakP 3 (exk [0] [] []) K) (Sshadow_Shadow_string_made_n0 i) = nodeshadow_Shadow_string_made_n0 i (outshadow_Shadow_string_made_n0 i K) := by kernel_rfl
theorem GNshadow_Shadow_string_made_n0_ok : CSum Try.prog 20 Lshadow_Shadow_string_made_n0 (sumN decshadow_Shadow_string_made_n0 nodeDshadow_Shadow_string_made_n0 outshadow_Shadow_string_made_n0) := csum_node mixed tabOk envshadow_Shadow_string_madeOk 3 (exk [0] [] []) annLshadow_Shadow_string_made_n0_ok decshadow_Shadow_string_made_n0_ok nodeshadow_Shadow_string_made_n0_ok nodeshadow_Shadow_string_made_n0_nat
noncomputable def Gshadow_Shadow_string_made_n0 : (Ex → St → Ans) → St → Ans := (sumN decshadow_Shadow_string_made_n0 nodeDshadow_Shadow_string_made_n0 outshadow_Shadow_string_made_n0)
theorem Gshadow_Shadow_string_made_n0_ok : CSum Try.prog 20 Lshadow_Shadow_string_made_n0 Gshadow_Shadow_string_made_n0 := GNshadow_Shadow_string_made_n0_ok
noncomputable def annshadow_Shadow_string_made : Ann := (.seq (.seq .none (.cut 3 [0, 6] Gshadow_Shadow_string_made_n0)) .none)
theorem annshadow_Shadow_string_made_ok : AnnOk Try.prog 20 bshadow_Shadow_string_made annshadow_Shadow_string_made := ⟨⟨(annOk_none _ _ _), Gshadow_Shadow_string_made_n0_ok⟩, (annOk_none _ _ _)⟩
abbrev Ashadow_Shadow_string_made := (List (Int × List UInt8)) × (List (Int × List UInt8))
abbrev Yshadow_Shadow_string_made := Unit
def fnshadow_Shadow_string_made {β : Type} : Ashadow_Shadow_string_made → (Yshadow_Shadow_string_made → Option β) → Option β := fun (o1, o2) exit => (bindO (nodeDshadow_Shadow_string_made_n0 (o1, o2)) fun _ => (exit ()))
def fnDshadow_Shadow_string_made (a : Ashadow_Shadow_string_made) : Option Yshadow_Shadow_string_made := fnshadow_Shadow_string_made a some
theorem fnshadow_Shadow_string_made_nat (a : Ashadow_Shadow_string_made) (k : Yshadow_Shadow_string_made → Ans) : fnshadow_Shadow_string_made a k = bindO (fnDshadow_Shadow_string_made a) k := by
  obtain ⟨o1, o2⟩ := a
  simp only [fnDshadow_Shadow_string_made, fnshadow_Shadow_string_made, bindO_cond, bindO_assoc, bindO_none, bindO_pure, bindO_elim, bindO_unP]
def argsshadow_Shadow_string_made : Ashadow_Shadow_string_made → List AV × List AE.Obj := fun (o1, o2) => ([AV.ptr 0 0], [AE.Obj.cells [AV.map 1, AV.map 2], Obj.mp IntKind.i64 Ty.str o1, Obj.mp IntKind.i64 Ty.str o2])
def decAshadow_Shadow_string_made (l : List AV) (H : List AE.Obj) : Option Ashadow_Shadow_string_made := match l, H with
  | [AV.ptr 0 0], [AE.Obj.cells [AV.map 1, AV.map 2], Obj.mp IntKind.i64 Ty.str o1, Obj.mp IntKind.i64 Ty.str o2] => some (o1, o2)
  | _, _ => none
theorem decAshadow_Shadow_string_made_ok (l : List AV) (H : List AE.Obj) (a : Ashadow_Shadow_string_made) (h : decAshadow_Shadow_string_made l H = some a) : (l, H) = argsshadow_Shadow_string_made a := by
  unfold decAshadow_Shadow_string_made at h
  split at h
  · cases h; rfl
  · cases h
def outshadow_Shadow_string_made : Ashadow_Shadow_string_made → (AV → List AE.Obj → Ans) → Yshadow_Shadow_string_made → Ans := fun (o1, o2) K => fun _ => K (AV.tup []) [AE.Obj.cells [AV.map 1, AV.map 2], Obj.mp IntKind.i64 Ty.str o1, Obj.mp IntKind.i64 Ty.str o2]
theorem fnshadow_Shadow_string_made_ok (a : Ashadow_Shadow_string_made) (K : AV → List AE.Obj → Ans) : fnE Try.tab envshadow_Shadow_string_made noHint 0 70 26 Try.f26.ntmps Try.f26.results.toList annshadow_Shadow_string_made bshadow_Shadow_string_made (argsshadow_Shadow_string_made a).1 (argsshadow_Shadow_string_made a).2 K = fnshadow_Shadow_string_made a (outshadow_Shadow_string_made a K) := by kernel_rfl
def vFshadow_Shadow_string_made (a : Ashadow_Shadow_string_made) (K : AV → List AE.Obj → Ans) : Ans := bindO (fnDshadow_Shadow_string_made a) fun y => outshadow_Shadow_string_made a K y
def Fshadow_Shadow_string_made : List AV → List AE.Obj → (AV → List AE.Obj → Ans) → Ans := fun l H K => bindO (decAshadow_Shadow_string_made l H) fun a => vFshadow_Shadow_string_made a K
theorem Fshadow_Shadow_string_made_ok : FuncOk Try.prog 26 Fshadow_Shadow_string_made := func_mkD (hint := noHint) (d := 0) (n := 70) mixed tabOk envshadow_Shadow_string_madeOk Try.func26 (bodySome (by kernel_rfl)) (by decide +kernel) annshadow_Shadow_string_made_ok decAshadow_Shadow_string_made_ok fnshadow_Shadow_string_made_ok fnshadow_Shadow_string_made_nat
--@ shadow_Shadow_string_Put
noncomputable def envshadow_Shadow_string_Put : Env := [(26, .func Fshadow_Shadow_string_made)]
theorem envshadow_Shadow_string_PutOk : EnvOk Try.prog envshadow_Shadow_string_Put := EnvOk.cons Fshadow_Shadow_string_made_ok (EnvOk.nil)
noncomputable def bshadow_Shadow_string_Put : Code := Try.f8.body.getD .skip
noncomputable def annshadow_Shadow_string_Put : Ann := .none
theorem annshadow_Shadow_string_Put_ok : AnnOk Try.prog 16 bshadow_Shadow_string_Put annshadow_Shadow_string_Put := (annOk_none _ _ _)
abbrev Ashadow_Shadow_string_Put := (Int) × (List UInt8) × (List (Int × List UInt8)) × (List (Int × List UInt8))
abbrev Yshadow_Shadow_string_Put := (List (Int × List UInt8))
def fnshadow_Shadow_string_Put {β : Type} : Ashadow_Shadow_string_Put → (Yshadow_Shadow_string_Put → Option β) → Option β := fun (a1, a2, o1, o2) exit => (bindO (fnDshadow_Shadow_string_made (o1, o2)) fun _ => (exit (mput a1 a2 o2)))
def fnDshadow_Shadow_string_Put (a : Ashadow_Shadow_string_Put) : Option Yshadow_Shadow_string_Put := fnshadow_Shadow_string_Put a some
theorem fnshadow_Shadow_string_Put_nat (a : Ashadow_Shadow_string_Put) (k : Yshadow_Shadow_string_Put → Ans) : fnshadow_Shadow_string_Put a k = bindO (fnDshadow_Shadow_string_Put a) k := by
  obtain ⟨a1, a2, o1, o2⟩ := a
  simp only [fnDshadow_Shadow_string_Put, fnshadow_Shadow_string_Put, bindO_cond, bindO_assoc, bindO_none, bindO_pure, bindO_elim, bindO_unP]
def argsshadow_Shadow_string_Put : Ashadow_Shadow_string_Put → List AV × List AE.Obj := fun (a1, a2, o1, o2) => ([AV.ptr 0 0, AV.int IntKind.i64 a1, AV.str a2], [AE.Obj.cells [AV.map 1, AV.map 2], Obj.mp IntKind.i64 Ty.str o1, Obj.mp IntKind.i64 Ty.str o2])
def decAshadow_Shadow_string_Put (l : List AV) (H : List AE.Obj) : Option Ashadow_Shadow_string_Put := match l, H with
  | [AV.ptr 0 0, AV.int IntKind.i64 a1, AV.str a2], [AE.Obj.cells [AV.map 1, AV.map 2], Obj.mp IntKind.i64 Ty.str o1, Obj.mp IntKind.i64 Ty.str o2] => some (a1, a2, o1, o2)
  | _, _ => none
theorem decAshadow_Shadow_string_Put_ok (l : List AV) (H : List AE.Obj) (a : Ashadow_Shadow_string_Put) (h : decAshadow_Shadow_string_Put l H = some a) : (l, H) = argsshadow_Shadow_string_Put a := by
  unfold decAshadow_Shadow_string_Put at h
  split at h
  · cases h; rfl
  · cases h
def outshadow_Shadow_string_Put : Ashadow_Shadow_string_Put → (AV → List AE.Obj → Ans) → Yshadow_Shadow_string_Put → Ans := fun (a1, a2, o1, o2) K => fun o2_y => K (AV.tup []) [AE.Obj.cells [AV.map 1, AV.map 2], Obj.mp IntKind.i64 Ty.str o1, Obj.mp IntKind.i64 Ty.str o2_y]
theorem fnshadow_Shadow_string_Put_ok (a : Ashadow_Shadow_string_Put) (K : AV → List AE.Obj → Ans) : fnE Try.tab envshadow_Shadow_string_Put noHint 0 70 8 Try.f8.ntmps Try.f8.results.toList annshadow_Shadow_string_Put bshadow_Shadow_string_Put (argsshadow_Shadow_string_Put a).1 (argsshadow_Shadow_string_Put a).2 K = fnshadow_Shadow_string_Put a (outshadow_Shadow_string_Put a K) := by kernel_rfl
def vFshadow_Shadow_string_Put (a : Ashadow_Shadow_string_Put) (K : AV → List AE.Obj → Ans) : Ans := bindO (fnDshadow_Shadow_string_Put a) fun y => outshadow_Shadow_string_Put a K y
def Fshadow_Shadow_string_Put : List AV → List AE.Obj → (AV → List AE.Obj → Ans) → Ans := fun l H K => bindO (decAshadow_Shadow_string_Put l H) fun a => vFshadow_Shadow_string_Put a K
theorem Fshadow_Shadow_string_Put_ok : FuncOk Try.prog 8 Fshadow_Shadow_string_Put := func_mkD (hint := noHint) (d := 0) (n := 70) mixed tabOk envshadow_Shadow_string_PutOk Try.func8 (bodySome (by kernel_rfl)) (by decide +kernel) annshadow_Shadow_string_Put_ok decAshadow_Shadow_string_Put_ok fnshadow_Shadow_string_Put_ok fnshadow_Shadow_string_Put_nat
--@ shadow_layer_string_each
noncomputable def envshadow_layer_string_each : Env := []
theorem envshadow_layer_string_eachOk : EnvOk Try.prog envshadow_layer_string_each := EnvOk.nil
noncomputable def bshadow_layer_string_each : Code := Try.f27.body.getD .skip
noncomputable def annshadow_layer_string_each : Ann := .none
theorem annshadow_layer_string_each_ok : AnnOk Try.prog 4 bshadow_layer_string_each annshadow_layer_string_each := (annOk_none _ _ _)
abbrev Ashadow_layer_string_each := (List (Int × List UInt8))
abbrev Yshadow_layer_string_each := Unit
def fnshadow_layer_string_each {β : Type} : Ashadow_layer_string_each → (Yshadow_layer_string_each → Option β) → Option β := fun o0 exit => (exit ())
def fnDshadow_layer_string_each (a : Ashadow_layer_string_each) : Option Yshadow_layer_string_each := fnshadow_layer_string_each a some
theorem fnshadow_layer_string_each_nat (a : Ashadow_layer_string_each) (k : Yshadow_layer_string_each → Ans) : fnshadow_layer_string_each a k = bindO (fnDshadow_layer_string_each a) k := by
  obtain z := a
  simp only [fnDshadow_layer_string_each, fnshadow_layer_string_each, bindO_cond, bindO_assoc, bindO_none, bindO_pure, bindO_elim, bindO_unP]
def argsshadow_layer_string_each : Ashadow_layer_string_each → List AV × List AE.Obj := fun o0 => ([AV.map 0], [Obj.mp IntKind.i64 Ty.str o0])
def decAshadow_layer_string_each (l : List AV) (H : List AE.Obj) : Option Ashadow_layer_string_each := match l, H with
  | [AV.map 0], [Obj.mp IntKind.i64 Ty.str o0] => some (o0)
  | _, _ => none
theorem decAshadow_layer_string_each_ok (l : List AV) (H : List AE.Obj) (a : Ashadow_layer_string_each) (h : decAshadow_layer_string_each l H = some a) : (l, H) = argsshadow_layer_string_each a := by
  unfold decAshadow_layer_string_each at h
  split at h
  · cases h; rfl
  · cases h
def outshadow_layer_string_each : Ashadow_layer_string_each → (AV → List AE.Obj → Ans) → Yshadow_layer_string_each → Ans := fun o0 K => fun _ => K (AV.fn (Fn.func 33) [] [AV.ptr 1 0]) [Obj.mp IntKind.i64 Ty.str o0, AE.Obj.cells [AV.map 0]]
theorem fnshadow_layer_string_each_ok (a : Ashadow_layer_string_each) (K : AV → List AE.Obj → Ans) : fnE Try.tab envshadow_layer_string_each noHint 0 70 27 Try.f27.ntmps Try.f27.results.toList annshadow_layer_string_each bshadow_layer_string_each (argsshadow_layer_string_each a).1 (argsshadow_layer_string_each a).2 K = fnshadow_layer_string_each a (outshadow_layer_string_each a K) := by kernel_rfl
def vFshadow_layer_string_each (a : Ashadow_layer_string_each) (K : AV → List AE.Obj → Ans) : Ans := bindO (fnDshadow_layer_string_each a) fun y => outshadow_layer_string_each a K y
def Fshadow_layer_string_each : List AV → List AE.Obj → (AV → List AE.Obj → Ans) → Ans := fun l H K => bindO (decAshadow_layer_string_each l H) fun a => vFshadow_layer_string_each a K
theorem Fshadow_layer_string_each_ok : FuncOk Try.prog 27 Fshadow_layer_string_each := func_mkD (hint := noHint) (d := 0) (n := 70) mixed tabOk envshadow_layer_string_eachOk Try.func27 (bodySome (by kernel_rfl)) (by decide +kernel) annshadow_layer_string_each_ok decAshadow_layer_string_each_ok fnshadow_layer_string_each_ok fnshadow_layer_string_each_nat
--@ shadow_Shadow_string_Back
noncomputable def envshadow_Shadow_string_Back : Env := []
theorem envshadow_Shadow_string_BackOk : EnvOk Try.prog envshadow_Shadow_string_Back := EnvOk.nil
noncomputable def bshadow_Shadow_string_Back : Code := Try.f11.body.getD .skip
noncomputable def annshadow_Shadow_string_Back : Ann := .none
theorem annshadow_Shadow_string_Back_ok : AnnOk Try.prog 8 bshadow_Shadow_string_Back annshadow_Shadow_string_Back := (annOk_none _ _ _)
abbrev Ashadow_Shadow_string_Back := (List (Int × List UInt8))
abbrev Yshadow_Shadow_string_Back := Unit
def fnshadow_Shadow_string_Back {β : Type} : Ashadow_Shadow_string_Back → (Yshadow_Shadow_string_Back → Option β) → Option β := fun o1 exit => (exit ())
def fnDshadow_Shadow_string_Back (a : Ashadow_Shadow_string_Back) : Option Yshadow_Shadow_string_Back := fnshadow_Shadow_string_Back a some
theorem fnshadow_Shadow_string_Back_nat (a : Ashadow_Shadow_string_Back) (k : Yshadow_Shadow_string_Back → Ans) : fnshadow_Shadow_string_Back a k = bindO (fnDshadow_Shadow_string_Back a) k := by
  obtain z := a
  simp only [fnDshadow_Shadow_string_Back, fnshadow_Shadow_string_Back, bindO_cond, bindO_assoc, bindO_none, bindO_pure, bindO_elim, bindO_unP]
def argsshadow_Shadow_string_Back : Ashadow_Shadow_string_Back → List AV × List AE.Obj := fun o1 => ([AV.ptr 0 0], [AE.Obj.cells [AV.map 1, AV.unk], Obj.mp IntKind.i64 Ty.str o1])
def decAshadow_Shadow_string_Back (l : List AV) (H : List AE.Obj) : Option Ashadow_Shadow_string_Back := match l, H with
  | [AV.ptr 0 0], [AE.Obj.cells [AV.map 1, AV.unk], Obj.mp IntKind.i64 Ty.str o1] => some (o1)
  | _, _ => none
theorem decAshadow_Shadow_string_Back_ok (l : List AV) (H : List AE.Obj) (a : Ashadow_Shadow_string_Back) (h : decAshadow_Shadow_string_Back l H = some a) : (l, H) = argsshadow_Shadow_string_Back a := by
  unfold decAshadow_Shadow_string_Back at h
  split at h
  · cases h; rfl
  · cases h
def outshadow_Shadow_string_Back : Ashadow_Shadow_string_Back → (AV → List AE.Obj → Ans) → Yshadow_Shadow_string_Back → Ans := fun o1 K => fun _ => K (AV.tup []) [AE.Obj.cells [AV.map 1, AV.map 2], Obj.mp IntKind.i64 Ty.str o1, Obj.mp IntKind.i64 Ty.str ([])]
theorem fnshadow_Shadow_string_Back_ok (a : Ashadow_Shadow_string_Back) (K : AV → List AE.Obj → Ans) : fnE Try.tab envshadow_Shadow_string_Back noHint 0 70 11 Try.f11.ntmps Try.f11.results.toList annshadow_Shadow_string_Back bshadow_Shadow_string_Back (argsshadow_Shadow_string_Back a).1 (argsshadow_Shadow_string_Back a).2 K = fnshadow_Shadow_string_Back a (outshadow_Shadow_string_Back a K) := by kernel_rfl
def vFshadow_Shadow_string_Back (a : Ashadow_Shadow_string_Back) (K : AV → List AE.Obj → Ans) : Ans := bindO (fnDshadow_Shadow_string_Back a) fun y => outshadow_Shadow_string_Back a K y
def Fshadow_Shadow_string_Back : List AV → List AE.Obj → (AV → List AE.Obj → Ans) → Ans := fun l H K => bindO (decAshadow_Shadow_string_Back l H) fun a => vFshadow_Shadow_string_Back a K
theorem Fshadow_Shadow_string_Back_ok : FuncOk Try.prog 11 Fshadow_Shadow_string_Back := func_mkD (hint := noHint) (d := 0) (n := 70) mixed tabOk envshadow_Shadow_string_BackOk Try.func11 (bodySome (by kernel_rfl)) (by decide +kernel) annshadow_Shadow_string_Back_ok decAshadow_Shadow_string_Back_ok fnshadow_Shadow_string_Back_ok fnshadow_Shadow_string_Back_nat
--@ shadow_Shadow_string_Keep
noncomputable def envshadow_Shadow_string_Keep : Env := [(26, .func Fshadow_Shadow_string_made), (27, .func Fshadow_layer_string_each), (11, .func Fshadow_Shadow_string_Back), (100033, (.iter (eachBegin .str) (eachNext .str))), (100035, (.iter (eachBegin (.int .i64)) (eachNext (.int .i64))))]
theorem envshadow_Shadow_string_KeepOk : EnvOk Try.prog envshadow_Shadow_string_Keep := EnvOk.cons Fshadow_Shadow_string_made_ok (EnvOk.cons Fshadow_layer_string_each_ok (EnvOk.cons Fshadow_Shadow_string_Back_ok (EnvOk.cons iter33_spec (EnvOk.cons iter35_spec (EnvOk.nil)))))
noncomputable def bshadow_Shadow_string_Keep : Code := Try.f9.body.getD .skip
noncomputable def Lshadow_Shadow_string_Keep_n0 : Code := codeAt [1, 1, 1, 0, 1, 0] bshadow_Shadow_string_Keep
theorem Lshadow_Shadow_string_Keep_n0_eq : Lshadow_Shadow_string_Keep_n0 = .rangeFunc (rfG Lshadow_Shadow_string_Keep_n0) (rfPs Lshadow_Shadow_string_Keep_n0) (rfAs Lshadow_Shadow_string_Keep_n0) (rfC Lshadow_Shadow_string_Keep_n0) := by kernel_rfl
noncomputable def annLshadow_Shadow_string_Keep_n0 : Ann := .at 3 [1, 12, 23] (.loop .none)
theorem annLshadow_Shadow_string_Keep_n0_ok : cutP Try.prog 23 (rfC Lshadow_Shadow_string_Keep_n0) annLshadow_Shadow_string_Keep_n0.fst (AnnOk Try.prog 23 (rfC Lshadow_Shadow_string_Keep_n0) annLshadow_Shadow_string_Keep_n0.fst) := (annOk_none _ _ _)
abbrev Ishadow_Shadow_string_Keep_n0 := (List (Int × List UInt8))
abbrev Yshadow_Shadow_string_Keep_n0 := (List (Int × List UInt8))
abbrev Vshadow_Shadow_string_Keep_n0 := (List Int) × (List (Int × List UInt8))
def Sshadow_Shadow_string_Keep_n0 : Ishadow_Shadow_string_Keep_n0 → Vshadow_Shadow_string_Keep_n0 → St := fun o2 (t23, o1) => { env := [(1, AV.ptr 3 0), (12, AV.fn (Fn.func 33) [] [AV.ptr 4 0]), (23, AV.gh t23)], stk := [[(0, AV.ptr 0 0)]], H := [AE.Obj.cells [AV.map 1, AV.unk], Obj.mp IntKind.i64 Ty.str o1, Obj.mp IntKind.i64 Ty.str o2, AE.Obj.cells [AV.ptr 0 0], AE.Obj.cells [AV.map 2]], blk := 36864 }
def decshadow_Shadow_string_Keep_n0 (s : St) : Option (Ishadow_Shadow_string_Keep_n0 × Vshadow_Shadow_string_Keep_n0) := match s with
  | { env := [(1, AV.ptr 3 0), (12, AV.fn (Fn.func 33) [] [AV.ptr 4 0]), (23, AV.gh t23)], stk := [[(0, AV.ptr 0 0)]], H := [AE.Obj.cells [AV.map 1, AV.unk], Obj.mp IntKind.i64 Ty.str o1, Obj.mp IntKind.i64 Ty.str o2, AE.Obj.cells [AV.ptr 0 0], AE.Obj.cells [AV.map 2]], blk := 36864 } => some (o2, (t23, o1))
  | _ => none
theorem decshadow_Shadow_string_Keep_n0_ok (s : St) (x : Ishadow_Shadow_string_Keep_n0 × Vshadow_Shadow_string_Keep_n0) (h : decshadow_Shadow_string_Keep_n0 s = some x) : s = Sshadow_Shadow_string_Keep_n0 x.1 x.2 := by
  unfold decshadow_Shadow_string_Keep_n0 at h
  split at h
  · cases h; rfl
  · cases h
def outshadow_Shadow_string_Keep_n0 : Ishadow_Shadow_string_Keep_n0 → (Ex → St → Ans) → Yshadow_Shadow_string_Keep_n0 → Ans := fun o2 K => fun o1_y => K (Ex.norm) { env := [(1, AV.ptr 3 0)], stk := [[(0, AV.ptr 0 0)]], H := [AE.Obj.cells [AV.map 1, AV.unk], Obj.mp IntKind.i64 Ty.str o1_y, Obj.mp IntKind.i64 Ty.str o2, AE.Obj.cells [AV.ptr 0 0]], blk := 36864 }
def stepshadow_Shadow_string_Keep_n0 {β : Type} : Ishadow_Shadow_string_Keep_n0 → Vshadow_Shadow_string_Keep_n0 → (Vshadow_Shadow_string_Keep_n0 → Option β) → (Yshadow_Shadow_string_Keep_n0 → Option β) → Option β := fun o2 (t23, o1) next exit => (bif isNil t23 then (exit (o1)) else (bindO (List.head? t23) fun x => (next (List.tail t23, mput x (mget x [] o2) o1))))
def stepDshadow_Shadow_string_Keep_n0 (i : Ishadow_Shadow_string_Keep_n0) (v : Vshadow_Shadow_string_Keep_n0) : Option (Vshadow_Shadow_string_Keep_n0 ⊕ Yshadow_Shadow_string_Keep_n0) := stepshadow_Shadow_string_Keep_n0 i v (fun v => some (.inl v)) (fun y => some (.inr y))
theorem stepshadow_Shadow_string_Keep_n0_nat (i : Ishadow_Shadow_string_Keep_n0) (v : Vshadow_Shadow_string_Keep_n0) (next : Vshadow_Shadow_string_Keep_n0 → Ans) (exit : Yshadow_Shadow_string_Keep_n0 → Ans) : stepshadow_Shadow_string_Keep_n0 i v next exit = bindO (stepDshadow_Shadow_string_Keep_n0 i v) (Sum.elim next exit) := by
  obtain z := i
  obtain ⟨t23, o1⟩ := v
  simp only [stepDshadow_Shadow_string_Keep_n0, stepshadow_Shadow_string_Keep_n0, bindO_cond, bindO_assoc, bindO_none, bindO_pure, bindO_elim, bindO_unP, Sum.elim_inl, Sum.elim_inr]
theorem stepshadow_Shadow_string_Keep_n0_ok (n : Nat) (i : Ishadow_Shadow_string_Keep_n0) (v : Vshadow_Shadow_string_Keep_n0) (K : Ex → St → Ans) : codeI Try.tab envshadow_Shadow_string_Keep noHint (codeD Try.tab envshadow_Shadow_string_Keep noHint 0 64) (n+1) 23 (.rnd annLshadow_Shadow_string_Keep_n0) (.rangeFunc (rfG Lshadow_Shadow_string_Keep_n0) (rfPs Lshadow_Shadow_string_Keep_n0) (rfAs Lshadow_Shadow_string_Keep_n0) (rfC Lshadow_Shadow_string_Keep_n0)) (weakP 3 (exk [1] [] []) K) (Sshadow_Shadow_string_Keep_n0 i v) = stepshadow_Shadow_string_Keep_n0 i v (fun v' => codeI Try.tab envshadow_Shadow_string_Keep noHint (codeD Try.tab envshadow_Shadow_string_Keep noHint 0 64) n 23 (.rnd annLshadow_Shadow_string_Keep_n0) (.rangeFunc (rfG Lshadow_Shadow_string_Keep_n0) (rfPs Lshadow_Shadow_string_Keep_n0) (rfAs Lshadow_Shadow_string_Keep_n0) (rfC Lshadow_Shadow_string_Keep_n0)) (weakP 3 (exk [1] [] []) K) (Sshadow_Shadow_string_Keep_n0 i v')) (fun y => outshadow_Shadow_string_Keep_n0 i K y) := by kernel_rfl
theorem GNshadow_Shadow_string_Keep_n0_ok : RH Try.tab envshadow_Shadow_string_Keep 23 annLshadow_Shadow_string_Keep_n0 (.rangeFunc (rfG Lshadow_Shadow_string_Keep_n0) (rfPs Lshadow_Shadow_string_Keep_n0) (rfAs Lshadow_Shadow_string_Keep_n0) (rfC Lshadow_Shadow_string_Keep_n0)) 3 (exk [1] [] []) (sumL decshadow_Shadow_string_Keep_n0 stepDshadow_Shadow_string_Keep_n0 outshadow_Shadow_string_Keep_n0) := rh_loop decshadow_Shadow_string_Keep_n0_ok stepshadow_Shadow_string_Keep_n0_ok stepshadow_Shadow_string_Keep_n0_nat
noncomputable def Gshadow_Shadow_string_Keep_n0 : (Ex → St → Ans) → St → Ans := startG envshadow_Shadow_string_Keep 23 3 [1, 12, 23] (rfG Lshadow_Shadow_string_Keep_n0) (sumL decshadow_Shadow_string_Keep_n0 stepDshadow_Shadow_string_Keep_n0 outshadow_Shadow_string_Keep_n0)
theorem Gshadow_Shadow_string_Keep_n0_ok : CSum Try.prog 23 Lshadow_Shadow_string_Keep_n0 Gshadow_Shadow_string_Keep_n0 := csum_rh mixed tabOk envshadow_Shadow_string_KeepOk [1, 12, 23] Lshadow_Shadow_string_Keep_n0_eq annLshadow_Shadow_string_Keep_n0_ok GNshadow_Shadow_string_Keep_n0_ok
noncomputable def annshadow_Shadow_string_Keep : Ann := (.seq .none (.seq .none (.seq .none (.seq (.seq .none (.block (.cut 3 [1, 12] Gshadow_Shadow_string_Keep_n0))) .none))))
theorem annshadow_Shadow_string_Keep_ok : AnnOk Try.prog 23 bshadow_Shadow_string_Keep annshadow_Shadow_string_Keep := ⟨(annOk_none _ _ _), ⟨(annOk_none _ _ _), ⟨(annOk_none _ _ _), ⟨⟨(annOk_none _ _ _), Gshadow_Shadow_string_Keep_n0_ok⟩, (annOk_none _ _ _)⟩⟩⟩⟩
abbrev Ashadow_Shadow_string_Keep := (List (Int × List UInt8)) × (List (Int × List UInt8))
abbrev Yshadow_Shadow_string_Keep := (List (Int × List UInt8))
def fnshadow_Shadow_string_Keep {β : Type} : Ashadow_Shadow_string_Keep → (Yshadow_Shadow_string_Keep → Option β) → Option β := fun (o1, o2) exit => (bindO (fnDshadow_Shadow_string_made (o1, o2)) fun _ => (bindO (fnDshadow_layer_string_each (o2)) fun _ => (bif Nat.ble (List.length o2) (1000000 : Nat) then (bindO (loopD (stepDshadow_Shadow_string_Keep_n0 (o2)) FUEL (keysOf o2, o1)) fun o1_2 => (bindO (fnDshadow_Shadow_string_Back (o1_2)) fun _ => (exit (o1_2)))) else none)))
def fnDshadow_Shadow_string_Keep (a : Ashadow_Shadow_string_Keep) : Option Yshadow_Shadow_string_Keep := fnshadow_Shadow_string_Keep a some
theorem fnshadow_Shadow_string_Keep_nat (a : Ashadow_Shadow_string_Keep) (k : Yshadow_Shadow_string_Keep → Ans) : fnshadow_Shadow_string_Keep a k = bindO (fnDshadow_Shadow_string_Keep a) k := by
  obtain ⟨o1, o2⟩ := a
  simp only [fnDshadow_Shadow_string_Keep, fnshadow_Shadow_string_Keep, bindO_cond, bindO_assoc, bindO_none, bindO_pure, bindO_elim, bindO_unP]
def argsshadow_Shadow_string_Keep : Ashadow_Shadow_string_Keep → List AV × List AE.Obj := fun (o1, o2) => ([AV.ptr 0 0], [AE.Obj.cells [AV.map 1, AV.map 2], Obj.mp IntKind.i64 Ty.str o1, Obj.mp IntKind.i64 Ty.str o2])
def decAshadow_Shadow_string_Keep (l : List AV) (H : List AE.Obj) : Option Ashadow_Shadow_string_Keep := match l, H with
  | [AV.ptr 0 0], [AE.Obj.cells [AV.map 1, AV.map 2], Obj.mp IntKind.i64 Ty.str o1, Obj.mp IntKind.i64 Ty.str o2] => some (o1, o2)
  | _, _ => none
theorem decAshadow_Shadow_string_Keep_ok (l : List AV) (H : List AE.Obj) (a : Ashadow_Shadow_string_Keep) (h : decAshadow_Shadow_string_Keep l H = some a) : (l, H) = argsshadow_Shadow_string_Keep a := by
  unfold decAshadow_Shadow_string_Keep at h
  split at h
  · cases h; rfl
  · cases h
def outshadow_Shadow_string_Keep : Ashadow_Shadow_string_Keep → (AV → List AE.Obj → Ans) → Yshadow_Shadow_string_Keep → Ans := fun (o1, o2) K => fun o1_y => K (AV.tup []) [AE.Obj.cells [AV.map 1, AV.map 3], Obj.mp IntKind.i64 Ty.str o1_y, Obj.mp IntKind.i64 Ty.str o2, Obj.mp IntKind.i64 Ty.str ([])]
theorem fnshadow_Shadow_string_Keep_ok (a : Ashadow_Shadow_string_Keep) (K : AV → List AE.Obj → Ans) : fnE Try.tab envshadow_Shadow_string_Keep noHint 0 70 9 Try.f9.ntmps Try.f9.results.toList annshadow_Shadow_string_Keep bshadow_Shadow_string_Keep (argsshadow_Shadow_string_Keep a).1 (argsshadow_Shadow_string_Keep a).2 K = fnshadow_Shadow_string_Keep a (outshadow_Shadow_string_Keep a K) := by kernel_rfl
def vFshadow_Shadow_string_Keep (a : Ashadow_Shadow_string_Keep) (K : AV → List AE.Obj → Ans) : Ans := bindO (fnDshadow_Shadow_string_Keep a) fun y => outshadow_Shadow_string_Keep a K y
def Fshadow_Shadow_string_Keep : List AV → List AE.Obj → (AV → List AE.Obj → Ans) → Ans := fun l H K => bindO (decAshadow_Shadow_string_Keep l H) fun a => vFshadow_Shadow_string_Keep a K
theorem Fshadow_Shadow_string_Keep_ok : FuncOk Try.prog 9 Fshadow_Shadow_string_Keep := func_mkD (hint := noHint) (d := 0) (n := 70) mixed tabOk envshadow_Shadow_string_KeepOk Try.func9 (bodySome (by kernel_rfl)) (by decide +kernel) annshadow_Shadow_string_Keep_ok decAshadow_Shadow_string_Keep_ok fnshadow_Shadow_string_Keep_ok fnshadow_Shadow_string_Keep_nat
--@ shadow_Shadow_string_Get
noncomputable def envshadow_Shadow_string_Get : Env := []
theorem envshadow_Shadow_string_GetOk : EnvOk Try.prog envshadow_Shadow_string_Get := EnvOk.nil
noncomputable def bshadow_Shadow_string_Get : Code := Try.f10.body.getD .skip
noncomputable def annshadow_Shadow_string_Get : Ann := .none
theorem annshadow_Shadow_string_Get_ok : AnnOk Try.prog 36 bshadow_Shadow_string_Get annshadow_Shadow_string_Get := (annOk_none _ _ _)
abbrev Ashadow_Shadow_string_Get := (Int) × (List (Int × List UInt8)) × (List (Int × List UInt8))
abbrev Yshadow_Shadow_string_Get := (List UInt8) × (Bool)
def fnshadow_Shadow_string_Get {β : Type} : Ashadow_Shadow_string_Get → (Yshadow_Shadow_string_Get → Option β) → Option β := fun (a1, o1, o2) exit => (bif mhas a1 o2 then (exit (mget a1 [] o2, true)) else (exit (mget a1 [] o1, mhas a1 o1)))
def fnDshadow_Shadow_string_Get (a : Ashadow_Shadow_string_Get) : Option Yshadow_Shadow_string_Get := fnshadow_Shadow_string_Get a some
theorem fnshadow_Shadow_string_Get_nat (a : Ashadow_Shadow_string_Get) (k : Yshadow_Shadow_string_Get → Ans) : fnshadow_Shadow_string_Get a k = bindO (fnDshadow_Shadow_string_Get a) k := by
  obtain ⟨a1, o1, o2⟩ := a
  simp only [fnDshadow_Shadow_string_Get, fnshadow_Shadow_string_Get, bindO_cond, bindO_assoc, bindO_none, bindO_pure, bindO_elim, bindO_unP]
def argsshadow_Shadow_string_Get : Ashadow_Shadow_string_Get → List AV × List AE.Obj := fun (a1, o1, o2) => ([AV.ptr 0 0, AV.int IntKind.i64 a1], [AE.Obj.cells [AV.map 1, AV.map 2], Obj.mp IntKind.i64 Ty.str o1, Obj.mp IntKind.i64 Ty.str o2])
def decAshadow_Shadow_string_Get (l : List AV) (H : List AE.Obj) : Option Ashadow_Shadow_string_Get := match l, H with
  | [AV.ptr 0 0, AV.int IntKind.i64 a1], [AE.Obj.cells [AV.map 1, AV.map 2], Obj.mp IntKind.i64 Ty.str o1, Obj.mp IntKind.i64 Ty.str o2] => some (a1, o1, o2)
  | _, _ => none
theorem decAshadow_Shadow_string_Get_ok (l : List AV) (H : List AE.Obj) (a : Ashadow_Shadow_string_Get) (h : decAshadow_Shadow_string_Get l H = some a) : (l, H) = argsshadow_Shadow_string_Get a := by
  unfold decAshadow_Shadow_string_Get at h
  split at h
  · cases h; rfl
  · cases h
def outshadow_Shadow_string_Get : Ashadow_Shadow_string_Get → (AV → List AE.Obj → Ans) → Yshadow_Shadow_string_Get → Ans := fun (a1, o1, o2) K => unP fun r_0_y r_1_y => K (AV.tup [AV.str r_0_y, AV.bool r_1_y]) [AE.Obj.cells [AV.map 1, AV.map 2], Obj.mp IntKind.i64 Ty.str o1, Obj.mp IntKind.i64 Ty.str o2]
theorem fnshadow_Shadow_string_Get_ok (a : Ashadow_Shadow_string_Get) (K : AV → List AE.Obj → Ans) : fnE Try.tab envshadow_Shadow_string_Get noHint 0 70 10 Try.f10.ntmps Try.f10.results.toList annshadow_Shadow_string_Get bshadow_Shadow_string_Get (argsshadow_Shadow_string_Get a).1 (argsshadow_Shadow_string_Get a).2 K = fnshadow_Shadow_string_Get a (outshadow_Shadow_string_Get a K) := by kernel_rfl
def vFshadow_Shadow_string_Get (a : Ashadow_Shadow_string_Get) (K : AV → List AE.Obj → Ans) : Ans := bindO (fnDshadow_Shadow_string_Get a) fun y => outshadow_Shadow_string_Get a K y
def Fshadow_Shadow_string_Get : List AV → List AE.Obj → (AV → List AE.Obj → Ans) → Ans := fun l H K => bindO (decAshadow_Shadow_string_Get l H) fun a => vFshadow_Shadow_string_Get a K
theorem Fshadow_Shadow_string_Get_ok : FuncOk Try.prog 10 Fshadow_Shadow_string_Get := func_mkD (hint := noHint) (d := 0) (n := 70) mixed tabOk envshadow_Shadow_string_GetOk Try.func10 (bodySome (by kernel_rfl)) (by decide +kernel) annshadow_Shadow_string_Get_ok decAshadow_Shadow_string_Get_ok fnshadow_Shadow_string_Get_ok fnshadow_Shadow_string_Get_nat
--@ shadow_Shadow_string_Back_2
noncomputable def envshadow_Shadow_string_Back_2 : Env := []
theorem envshadow_Shadow_string_Back_2Ok : EnvOk Try.prog envshadow_Shadow_string_Back_2 := EnvOk.nil
noncomputable def bshadow_Shadow_string_Back_2 : Code := Try.f11.body.getD .skip
noncomputable def annshadow_Shadow_string_Back_2 : Ann := .none
theorem annshadow_Shadow_string_Back_2_ok : AnnOk Try.prog 8 bshadow_Shadow_string_Back_2 annshadow_Shadow_string_Back_2 := (annOk_none _ _ _)
abbrev Ashadow_Shadow_string_Back_2 := (List (Int × List UInt8)) × (List (Int × List UInt8))
abbrev Yshadow_Shadow_string_Back_2 := Unit
def fnshadow_Shadow_string_Back_2 {β : Type} : Ashadow_Shadow_string_Back_2 → (Yshadow_Shadow_string_Back_2 → Option β) → Option β := fun (o1, o2) exit => (exit ())
def fnDshadow_Shadow_string_Back_2 (a : Ashadow_Shadow_string_Back_2) : Option Yshadow_Shadow_string_Back_2 := fnshadow_Shadow_string_Back_2 a some
theorem fnshadow_Shadow_string_Back_2_nat (a : Ashadow_Shadow_string_Back_2) (k : Yshadow_Shadow_string_Back_2 → Ans) : fnshadow_Shadow_string_Back_2 a k = bindO (fnDshadow_Shadow_string_Back_2 a) k := by
  obtain ⟨o1, o2⟩ := a
  simp only [fnDshadow_Shadow_string_Back_2, fnshadow_Shadow_string_Back_2, bindO_cond, bindO_assoc, bindO_none, bindO_pure, bindO_elim, bindO_unP]
def argsshadow_Shadow_string_Back_2 : Ashadow_Shadow_string_Back_2 → List AV × List AE.Obj := fun (o1, o2) => ([AV.ptr 0 0], [AE.Obj.cells [AV.map 1, AV.map 2], Obj.mp IntKind.i64 Ty.str o1, Obj.mp IntKind.i64 Ty.str o2])
def decAshadow_Shadow_string_Back_2 (l : List AV) (H : List AE.Obj) : Option Ashadow_Shadow_string_Back_2 := match l, H with
  | [AV.ptr 0 0], [AE.Obj.cells [AV.map 1, AV.map 2], Obj.mp IntKind.i64 Ty.str o1, Obj.mp IntKind.i64 Ty.str o2] => some (o1, o2)
  | _, _ => none
theorem decAshadow_Shadow_string_Back_2_ok (l : List AV) (H : List AE.Obj) (a : Ashadow_Shadow_string_Back_2) (h : decAshadow_Shadow_string_Back_2 l H = some a) : (l, H) = argsshadow_Shadow_string_Back_2 a := by
  unfold decAshadow_Shadow_string_Back_2 at h
  split at h
  · cases h; rfl
  · cases h
def outshadow_Shadow_string_Back_2 : Ashadow_Shadow_string_Back_2 → (AV → List AE.Obj → Ans) → Yshadow_Shadow_string_Back_2 → Ans := fun (o1, o2) K => fun _ => K (AV.tup []) [AE.Obj.cells [AV.map 1, AV.map 3], Obj.mp IntKind.i64 Ty.str o1, Obj.mp IntKind.i64 Ty.str o2, Obj.mp IntKind.i64 Ty.str ([])]
theorem fnshadow_Shadow_string_Back_2_ok (a : Ashadow_Shadow_string_Back_2) (K : AV → List AE.Obj → Ans) : fnE Try.tab envshadow_Shadow_string_Back_2 noHint 0 70 11 Try.f11.ntmps Try.f11.results.toList annshadow_Shadow_string_Back_2 bshadow_Shadow_string_Back_2 (argsshadow_Shadow_string_Back_2 a).1 (argsshadow_Shadow_string_Back_2 a).2 K = fnshadow_Shadow_string_Back_2 a (outshadow_Shadow_string_Back_2 a K) := by kernel_rfl
def vFshadow_Shadow_string_Back_2 (a : Ashadow_Shadow_string_Back_2) (K : AV → List AE.Obj → Ans) : Ans := bindO (fnDshadow_Shadow_string_Back_2 a) fun y => outshadow_Shadow_string_Back_2 a K y
def Fshadow_Shadow_string_Back_2 : List AV → List AE.Obj → (AV → List AE.Obj → Ans) → Ans := fun l H K => bindO (decAshadow_Shadow_string_Back_2 l H) fun a => vFshadow_Shadow_string_Back_2 a K
theorem Fshadow_Shadow_string_Back_2_ok : FuncOk Try.prog 11 Fshadow_Shadow_string_Back_2 := func_mkD (hint := noHint) (d := 0) (n := 70) mixed tabOk envshadow_Shadow_string_Back_2Ok Try.func11 (bodySome (by kernel_rfl)) (by decide +kernel) annshadow_Shadow_string_Back_2_ok decAshadow_Shadow_string_Back_2_ok fnshadow_Shadow_string_Back_2_ok fnshadow_Shadow_string_Back_2_nat
--@ shadow_Shadow_string_Loose
noncomputable def envshadow_Shadow_string_Loose : Env := []
theorem envshadow_Shadow_string_LooseOk : EnvOk Try.prog envshadow_Shadow_string_Loose := EnvOk.nil
noncomputable def bshadow_Shadow_string_Loose : Code := Try.f12.body.getD .skip
noncomputable def annshadow_Shadow_string_Loose : Ann := .none
theorem annshadow_Shadow_string_Loose_ok : AnnOk Try.prog 10 bshadow_Shadow_string_Loose annshadow_Shadow_string_Loose := (annOk_none _ _ _)
abbrev Ashadow_Shadow_string_Loose := (List (Int × List UInt8)) × (List (Int × List UInt8))
abbrev Yshadow_Shadow_string_Loose := (Int)
def fnshadow_Shadow_string_Loose {β : Type} : Ashadow_Shadow_string_Loose → (Yshadow_Shadow_string_Loose → Option β) → Option β := fun (o1, o2) exit => (exit ((↑(List.length o2) : Int)))
def fnDshadow_Shadow_string_Loose (a : Ashadow_Shadow_string_Loose) : Option Yshadow_Shadow_string_Loose := fnshadow_Shadow_string_Loose a some
theorem fnshadow_Shadow_string_Loose_nat (a : Ashadow_Shadow_string_Loose) (k : Yshadow_Shadow_string_Loose → Ans) : fnshadow_Shadow_string_Loose a k = bindO (fnDshadow_Shadow_string_Loose a) k := by
  obtain ⟨o1, o2⟩ := a
  simp only [fnDshadow_Shadow_string_Loose, fnshadow_Shadow_string_Loose, bindO_cond, bindO_assoc, bindO_none, bindO_pure, bindO_elim, bindO_unP]
def argsshadow_Shadow_string_Loose : Ashadow_Shadow_string_Loose → List AV × List AE.Obj := fun (o1, o2) => ([AV.ptr 0 0], [AE.Obj.cells [AV.map 1, AV.map 2], Obj.mp IntKind.i64 Ty.str o1, Obj.mp IntKind.i64 Ty.str o2])
def decAshadow_Shadow_string_Loose (l : List AV) (H : List AE.Obj) : Option Ashadow_Shadow_string_Loose := match l, H with
  | [AV.ptr 0 0], [AE.Obj.cells [AV.map 1, AV.map 2], Obj.mp IntKind.i64 Ty.str o1, Obj.mp IntKind.i64 Ty.str o2] => some (o1, o2)
  | _, _ => none
theorem decAshadow_Shadow_string_Loose_ok (l : List AV) (H : List AE.Obj) (a : Ashadow_Shadow_string_Loose) (h : decAshadow_Shadow_string_Loose l H = some a) : (l, H) = argsshadow_Shadow_string_Loose a := by
  unfold decAshadow_Shadow_string_Loose at h
  split at h
  · cases h; rfl
  · cases h
def outshadow_Shadow_string_Loose : Ashadow_Shadow_string_Loose → (AV → List AE.Obj → Ans) → Yshadow_Shadow_string_Loose → Ans := fun (o1, o2) K => fun r_y => K (AV.int IntKind.i64 r_y) [AE.Obj.cells [AV.map 1, AV.map 2], Obj.mp IntKind.i64 Ty.str o1, Obj.mp IntKind.i64 Ty.str o2]
theorem fnshadow_Shadow_string_Loose_ok (a : Ashadow_Shadow_string_Loose) (K : AV → List AE.Obj → Ans) : fnE Try.tab envshadow_Shadow_string_Loose noHint 0 70 12 Try.f12.ntmps Try.f12.results.toList annshadow_Shadow_string_Loose bshadow_Shadow_string_Loose (argsshadow_Shadow_string_Loose a).1 (argsshadow_Shadow_string_Loose a).2 K = fnshadow_Shadow_string_Loose a (outshadow_Shadow_string_Loose a K) := by kernel_rfl
def vFshadow_Shadow_string_Loose (a : Ashadow_Shadow_string_Loose) (K : AV → List AE.Obj → Ans) : Ans := bindO (fnDshadow_Shadow_string_Loose a) fun y => outshadow_Shadow_string_Loose a K y
def Fshadow_Shadow_string_Loose : List AV → List AE.Obj → (AV → List AE.Obj → Ans) → Ans := fun l H K => bindO (decAshadow_Shadow_string_Loose l H) fun a => vFshadow_Shadow_string_Loose a K
theorem Fshadow_Shadow_string_Loose_ok : FuncOk Try.prog 12 Fshadow_Shadow_string_Loose := func_mkD (hint := noHint) (d := 0) (n := 70) mixed tabOk envshadow_Shadow_string_LooseOk Try.func12 (bodySome (by kernel_rfl)) (by decide +kernel) annshadow_Shadow_string_Loose_ok decAshadow_Shadow_string_Loose_ok fnshadow_Shadow_string_Loose_ok fnshadow_Shadow_string_Loose_nat
--@ law13_ShadowBack
noncomputable def envlaw13_ShadowBack : Env := [(6, .pure Flaw13_works), (7, .func Fshadow_New_string), (8, .func Fshadow_Shadow_string_Put), (9, .func Fshadow_Shadow_string_Keep), (10, .func Fshadow_Shadow_string_Get), (11, .func Fshadow_Shadow_string_Back_2), (12, .func Fshadow_Shadow_string_Loose)]
theorem envlaw13_ShadowBackOk : EnvOk Try.prog envlaw13_ShadowBack := EnvOk.cons Flaw13_works_ok (EnvOk.cons Fshadow_New_string_ok (EnvOk.cons Fshadow_Shadow_string_Put_ok (EnvOk.cons Fshadow_Shadow_string_Keep_ok (EnvOk.cons Fshadow_Shadow_string_Get_ok (EnvOk.cons Fshadow_Shadow_string_Back_2_ok (EnvOk.cons Fshadow_Shadow_string_Loose_ok (EnvOk.nil)))))))
noncomputable def blaw13_ShadowBack : Code := Try.f3.body.getD .skip
noncomputable def Llaw13_ShadowBack_n3 : Code := codeAt [1, 1, 1, 1, 1, 1, 1, 1, 1, 1, 0] blaw13_ShadowBack
noncomputable def annLlaw13_ShadowBack_n3 : Ann := .none
theorem annLlaw13_ShadowBack_n3_ok : AnnOk Try.prog 83 Llaw13_ShadowBack_n3 annLlaw13_ShadowBack_n3 := (annOk_none _ _ _)
abbrev Ilaw13_ShadowBack_n3 := (List UInt8) × (Bool) × (List UInt8) × (Bool) × (List (Int × List UInt8))
abbrev Ylaw13_ShadowBack_n3 := (Bool)
def Slaw13_ShadowBack_n3 : Ilaw13_ShadowBack_n3 → St := fun (t9, t10, t12, t13, o1) => { env := [(7, AV.ptr 0 0), (9, AV.str t9), (10, AV.bool t10), (12, AV.str t12), (13, AV.bool t13)], stk := [[]], H := [AE.Obj.cells [AV.map 1, AV.map 2], Obj.mp IntKind.i64 Ty.str o1, Obj.mp IntKind.i64 Ty.str ([])], blk := 12290 }
def declaw13_ShadowBack_n3 (s : St) : Option Ilaw13_ShadowBack_n3 := match s with
  | { env := [(7, AV.ptr 0 0), (9, AV.str t9), (10, AV.bool t10), (12, AV.str t12), (13, AV.bool t13)], stk := [[]], H := [AE.Obj.cells [AV.map 1, AV.map 2], Obj.mp IntKind.i64 Ty.str o1, Obj.mp IntKind.i64 Ty.str r5], blk := 12290 } => cond (decide (r5 = [])) (some (t9, t10, t12, t13, o1)) none
  | _ => none
theorem declaw13_ShadowBack_n3_ok (s : St) (x : Ilaw13_ShadowBack_n3) (h : declaw13_ShadowBack_n3 s = some x) : s = Slaw13_ShadowBack_n3 x := by
  unfold declaw13_ShadowBack_n3 at h
  split at h
  · replace h := cond_noneO h; obtain ⟨hg, h⟩ := h; simp only [Bool.and_eq_true, decide_eq_true_eq] at hg; simp only [hg]; cases h; rfl
  · cases h
def outlaw13_ShadowBack_n3 : Ilaw13_ShadowBack_n3 → (Ex → St → Ans) → Ylaw13_ShadowBack_n3 → Ans := fun (t9, t10, t12, t13, o1) K => fun t6_y => K (Ex.norm) { env := [(6, AV.bool t6_y)], stk := [[]], H := [], blk := 12290 }
def nodelaw13_ShadowBack_n3 {β : Type} : Ilaw13_ShadowBack_n3 → (Ylaw13_ShadowBack_n3 → Option β) → Option β := fun (t9, t10, t12, t13, o1) exit => (bif t9 == t12 then (bif t10 == t13 then (bindO (fnDshadow_Shadow_string_Loose (o1, [])) fun r => (exit (r == (0 : Int)))) else (exit (false))) else (exit (false)))
def nodeDlaw13_ShadowBack_n3 (i : Ilaw13_ShadowBack_n3) : Option Ylaw13_ShadowBack_n3 := nodelaw13_ShadowBack_n3 i some
theorem nodelaw13_ShadowBack_n3_nat (i : Ilaw13_ShadowBack_n3) (k : Ylaw13_ShadowBack_n3 → Ans) : nodelaw13_ShadowBack_n3 i k = bindO (nodeDlaw13_ShadowBack_n3 i) k := by
  obtain ⟨t9, t10, t12, t13, o1⟩ := i
  simp only [nodeDlaw13_ShadowBack_n3, nodelaw13_ShadowBack_n3, bindO_cond, bindO_assoc, bindO_none, bindO_pure, bindO_elim, bindO_unP]
theorem nodelaw13_ShadowBack_n3_ok (i : Ilaw13_ShadowBack_n3) (K : Ex → St → Ans) : codeI Try.tab envlaw13_ShadowBack noHint (codeD Try.tab envlaw13_ShadowBack noHint 0 64) 70 83 annLlaw13_ShadowBack_n3 Llaw13_ShadowBack_n3 (weakP 0 (exk [6] [6] []) K) (Slaw13_ShadowBack_n3 i) = nodelaw13_ShadowBack_n3 i (outlaw13_ShadowBack_n3 i K) := by kernel_rfl
theorem GNlaw13_ShadowBack_n3_ok : CSum Try.prog 83 Llaw13_ShadowBack_n3 (sumN declaw13_ShadowBack_n3 nodeDlaw13_ShadowBack_n3 outlaw13_ShadowBack_n3) := csum_node mixed tabOk envlaw13_ShadowBackOk 0 (exk [6] [6] []) annLlaw13_ShadowBack_n3_ok declaw13_ShadowBack_n3_ok nodelaw13_ShadowBack_n3_ok nodelaw13_ShadowBack_n3_nat
noncomputable def Glaw13_ShadowBack_n3 : (Ex → St → Ans) → St → Ans := (sumN declaw13_ShadowBack_n3 nodeDlaw13_ShadowBack_n3 outlaw13_ShadowBack_n3)
theorem Glaw13_ShadowBack_n3_ok : CSum Try.prog 83 Llaw13_ShadowBack_n3 Glaw13_ShadowBack_n3 := GNlaw13_ShadowBack_n3_ok
noncomputable def Llaw13_ShadowBack_n2 : Code := codeAt [1, 1, 1, 1, 1, 1, 1, 0, 1, 0, 0] blaw13_ShadowBack
noncomputable def annLlaw13_ShadowBack_n2 : Ann := .at 0 [1, 2, 7, 9, 10, 11] (.loop .none)
theorem annLlaw13_ShadowBack_n2_ok : AnnOk Try.prog 83 (.loop Llaw13_ShadowBack_n2) annLlaw13_ShadowBack_n2 := annOk_at (annOk_none _ _ _)
abbrev Ilaw13_ShadowBack_n2 := (List (List UInt8)) × (Int) × (List UInt8) × (Bool) × (List (Int × List UInt8))
abbrev Ylaw13_ShadowBack_n2 := (List (Int × List UInt8))
abbrev Vlaw13_ShadowBack_n2 := (Int) × (List (Int × List UInt8))
def Slaw13_ShadowBack_n2 : Ilaw13_ShadowBack_n2 → Vlaw13_ShadowBack_n2 → St := fun (t1, t2, t9, t10, o1) (t11, o2) => { env := [(1, AV.ro Ty.str t1), (2, AV.int IntKind.i64 t2), (7, AV.ptr 0 0), (9, AV.str t9), (10, AV.bool t10), (11, AV.int IntKind.i64 t11)], stk := [[]], H := [AE.Obj.cells [AV.map 1, AV.map 2], Obj.mp IntKind.i64 Ty.str o1, Obj.mp IntKind.i64 Ty.str o2], blk := 12290 }
def declaw13_ShadowBack_n2 (s : St) : Option (Ilaw13_ShadowBack_n2 × Vlaw13_ShadowBack_n2) := match s with
  | { env := [(1, AV.ro Ty.str t1), (2, AV.int IntKind.i64 t2), (7, AV.ptr 0 0), (9, AV.str t9), (10, AV.bool t10), (11, AV.int IntKind.i64 t11)], stk := [[]], H := [AE.Obj.cells [AV.map 1, AV.map 2], Obj.mp IntKind.i64 Ty.str o1, Obj.mp IntKind.i64 Ty.str o2], blk := 12290 } => some ((t1, t2, t9, t10, o1), (t11, o2))
  | _ => none
theorem declaw13_ShadowBack_n2_ok (s : St) (x : Ilaw13_ShadowBack_n2 × Vlaw13_ShadowBack_n2) (h : declaw13_ShadowBack_n2 s = some x) : s = Slaw13_ShadowBack_n2 x.1 x.2 := by
  unfold declaw13_ShadowBack_n2 at h
  split at h
  · cases h; rfl
  · cases h
def outlaw13_ShadowBack_n2 : Ilaw13_ShadowBack_n2 → (Ex → St → Ans) → Ylaw13_ShadowBack_n2 → Ans := fun (t1, t2, t9, t10, o1) K => fun o2_y => K (Ex.exit 2) { env := [(2, AV.int IntKind.i64 t2), (7, AV.ptr 0 0), (9, AV.str t9), (10, AV.bool t10)], stk := [[]], H := [AE.Obj.cells [AV.map 1, AV.map 2], Obj.mp IntKind.i64 Ty.str o1, Obj.mp IntKind.i64 Ty.str o2_y], blk := 12290 }
def steplaw13_ShadowBack_n2 {β : Type} : Ilaw13_ShadowBack_n2 → Vlaw13_ShadowBack_n2 → (Vlaw13_ShadowBack_n2 → Option β) → (Ylaw13_ShadowBack_n2 → Option β) → Option β := fun (t1, t2, t9, t10, o1) (t11, o2) next exit => (bif decide (t11 < (↑(List.length t1) : Int)) then (bindO (nth t1 t11) fun x => (bindO (fnDshadow_Shadow_string_Put (Int.tmod t11 (100 : Int), x, o1, o2)) fun o2_2 => (next (IntKind.wrap IntKind.i64 (t11 + (1 : Int)), o2_2)))) else (exit (o2)))
def stepDlaw13_ShadowBack_n2 (i : Ilaw13_ShadowBack_n2) (v : Vlaw13_ShadowBack_n2) : Option (Vlaw13_ShadowBack_n2 ⊕ Ylaw13_ShadowBack_n2) := steplaw13_ShadowBack_n2 i v (fun v => some (.inl v)) (fun y => some (.inr y))
theorem steplaw13_ShadowBack_n2_nat (i : Ilaw13_ShadowBack_n2) (v : Vlaw13_ShadowBack_n2) (next : Vlaw13_ShadowBack_n2 → Ans) (exit : Ylaw13_ShadowBack_n2 → Ans) : steplaw13_ShadowBack_n2 i v next exit = bindO (stepDlaw13_ShadowBack_n2 i v) (Sum.elim next exit) := by
  obtain ⟨t1, t2, t9, t10, o1⟩ := i
  obtain ⟨t11, o2⟩ := v
  simp only [stepDlaw13_ShadowBack_n2, steplaw13_ShadowBack_n2, bindO_cond, bindO_assoc, bindO_none, bindO_pure, bindO_elim, bindO_unP, Sum.elim_inl, Sum.elim_inr]
theorem steplaw13_ShadowBack_n2_ok (n : Nat) (i : Ilaw13_ShadowBack_n2) (v : Vlaw13_ShadowBack_n2) (K : Ex → St → Ans) : codeI Try.tab envlaw13_ShadowBack noHint (codeD Try.tab envlaw13_ShadowBack noHint 0 64) (n+1) 83 annLlaw13_ShadowBack_n2 (.loop Llaw13_ShadowBack_n2) (weakP 0 (exk [2, 7, 9, 10] [6] [(2, [2, 7, 9, 10])]) K) (Slaw13_ShadowBack_n2 i v) = steplaw13_ShadowBack_n2 i v (fun v' => codeI Try.tab envlaw13_ShadowBack noHint (codeD Try.tab envlaw13_ShadowBack noHint 0 64) n 83 annLlaw13_ShadowBack_n2 (.loop Llaw13_ShadowBack_n2) (weakP 0 (exk [2, 7, 9, 10] [6] [(2, [2, 7, 9, 10])]) K) (Slaw13_ShadowBack_n2 i v')) (fun y => outlaw13_ShadowBack_n2 i K y) := by kernel_rfl
theorem GNlaw13_ShadowBack_n2_ok : CSum Try.prog 83 (.loop Llaw13_ShadowBack_n2) (sumL declaw13_ShadowBack_n2 stepDlaw13_ShadowBack_n2 outlaw13_ShadowBack_n2) := csum_loop mixed tabOk envlaw13_ShadowBackOk 0 (exk [2, 7, 9, 10] [6] [(2, [2, 7, 9, 10])]) annLlaw13_ShadowBack_n2_ok declaw13_ShadowBack_n2_ok steplaw13_ShadowBack_n2_ok steplaw13_ShadowBack_n2_nat
noncomputable def Glaw13_ShadowBack_n2 : (Ex → St → Ans) → St → Ans := (sumL declaw13_ShadowBack_n2 stepDlaw13_ShadowBack_n2 outlaw13_ShadowBack_n2)
theorem Glaw13_ShadowBack_n2_ok : CSum Try.prog 83 (.loop Llaw13_ShadowBack_n2) Glaw13_ShadowBack_n2 := GNlaw13_ShadowBack_n2_ok
noncomputable def Llaw13_ShadowBack_n1 : Code := codeAt [1, 1, 1, 1, 0, 1, 0, 0] blaw13_ShadowBack
noncomputable def annLlaw13_ShadowBack_n1 : Ann := .at 0 [0, 1, 2, 7, 8] (.loop .none)
theorem annLlaw13_ShadowBack_n1_ok : AnnOk Try.prog 83 (.loop Llaw13_ShadowBack_n1) annLlaw13_ShadowBack_n1 := annOk_at (annOk_none _ _ _)
abbrev Ilaw13_ShadowBack_n1 := (List (List UInt8)) × (List (List UInt8)) × (Int)
abbrev Ylaw13_ShadowBack_n1 := (List (Int × List UInt8))
abbrev Vlaw13_ShadowBack_n1 := (Int) × (List (Int × List UInt8))
def Slaw13_ShadowBack_n1 : Ilaw13_ShadowBack_n1 → Vlaw13_ShadowBack_n1 → St := fun (t0, t1, t2) (t8, o2) => { env := [(0, AV.ro Ty.str t0), (1, AV.ro Ty.str t1), (2, AV.int IntKind.i64 t2), (7, AV.ptr 0 0), (8, AV.int IntKind.i64 t8)], stk := [[]], H := [AE.Obj.cells [AV.map 1, AV.map 2], Obj.mp IntKind.i64 Ty.str ([]), Obj.mp IntKind.i64 Ty.str o2], blk := 12288 }
def declaw13_ShadowBack_n1 (s : St) : Option (Ilaw13_ShadowBack_n1 × Vlaw13_ShadowBack_n1) := match s with
  | { env := [(0, AV.ro Ty.str t0), (1, AV.ro Ty.str t1), (2, AV.int IntKind.i64 t2), (7, AV.ptr 0 0), (8, AV.int IntKind.i64 t8)], stk := [[]], H := [AE.Obj.cells [AV.map 1, AV.map 2], Obj.mp IntKind.i64 Ty.str r4, Obj.mp IntKind.i64 Ty.str o2], blk := 12288 } => cond (decide (r4 = [])) (some ((t0, t1, t2), (t8, o2))) none
  | _ => none
theorem declaw13_ShadowBack_n1_ok (s : St) (x : Ilaw13_ShadowBack_n1 × Vlaw13_ShadowBack_n1) (h : declaw13_ShadowBack_n1 s = some x) : s = Slaw13_ShadowBack_n1 x.1 x.2 := by
  unfold declaw13_ShadowBack_n1 at h
  split at h
  · replace h := cond_noneO h; obtain ⟨hg, h⟩ := h; simp only [Bool.and_eq_true, decide_eq_true_eq] at hg; simp only [hg]; cases h; rfl
  · cases h
def outlaw13_ShadowBack_n1 : Ilaw13_ShadowBack_n1 → (Ex → St → Ans) → Ylaw13_ShadowBack_n1 → Ans := fun (t0, t1, t2) K => fun o2_y => K (Ex.exit 0) { env := [(1, AV.ro Ty.str t1), (2, AV.int IntKind.i64 t2), (7, AV.ptr 0 0)], stk := [[]], H := [AE.Obj.cells [AV.map 1, AV.map 2], Obj.mp IntKind.i64 Ty.str ([]), Obj.mp IntKind.i64 Ty.str o2_y], blk := 12288 }
def steplaw13_ShadowBack_n1 {β : Type} : Ilaw13_ShadowBack_n1 → Vlaw13_ShadowBack_n1 → (Vlaw13_ShadowBack_n1 → Option β) → (Ylaw13_ShadowBack_n1 → Option β) → Option β := fun (t0, t1, t2) (t8, o2) next exit => (bif decide (t8 < (↑(List.length t0) : Int)) then (bindO (nth t0 t8) fun x => (bindO (fnDshadow_Shadow_string_Put (Int.tmod (IntKind.wrap IntKind.i64 ((3 : Int) * t8)) (100 : Int), x, [], o2)) fun o2_2 => (next (IntKind.wrap IntKind.i64 (t8 + (1 : Int)), o2_2)))) else (exit (o2)))
def stepDlaw13_ShadowBack_n1 (i : Ilaw13_ShadowBack_n1) (v : Vlaw13_ShadowBack_n1) : Option (Vlaw13_ShadowBack_n1 ⊕ Ylaw13_ShadowBack_n1) := steplaw13_ShadowBack_n1 i v (fun v => some (.inl v)) (fun y => some (.inr y))
theorem steplaw13_ShadowBack_n1_nat (i : Ilaw13_ShadowBack_n1) (v : Vlaw13_ShadowBack_n1) (next : Vlaw13_ShadowBack_n1 → Ans) (exit : Ylaw13_ShadowBack_n1 → Ans) : steplaw13_ShadowBack_n1 i v next exit = bindO (stepDlaw13_ShadowBack_n1 i v) (Sum.elim next exit) := by
  obtain ⟨t0, t1, t2⟩ := i
  obtain ⟨t8, o2⟩ := v
  simp only [stepDlaw13_ShadowBack_n1, steplaw13_ShadowBack_n1, bindO_cond, bindO_assoc, bindO_none, bindO_pure, bindO_elim, bindO_unP, Sum.elim_inl, Sum.elim_inr]
theorem steplaw13_ShadowBack_n1_ok (n : Nat) (i : Ilaw13_ShadowBack_n1) (v : Vlaw13_ShadowBack_n1) (K : Ex → St → Ans) : codeI Try.tab envlaw13_ShadowBack noHint (codeD Try.tab envlaw13_ShadowBack noHint 0 64) (n+1) 83 annLlaw13_ShadowBack_n1 (.loop Llaw13_ShadowBack_n1) (weakP 0 (exk [1, 2, 7] [6] [(0, [1, 2, 7])]) K) (Slaw13_ShadowBack_n1 i v) = steplaw13_ShadowBack_n1 i v (fun v' => codeI Try.tab envlaw13_ShadowBack noHint (codeD Try.tab envlaw13_ShadowBack noHint 0 64) n 83 annLlaw13_ShadowBack_n1 (.loop Llaw13_ShadowBack_n1) (weakP 0 (exk [1, 2, 7] [6] [(0, [1, 2, 7])]) K) (Slaw13_ShadowBack_n1 i v')) (fun y => outlaw13_ShadowBack_n1 i K y) := by kernel_rfl
theorem GNlaw13_ShadowBack_n1_ok : CSum Try.prog 83 (.loop Llaw13_ShadowBack_n1) (sumL declaw13_ShadowBack_n1 stepDlaw13_ShadowBack_n1 outlaw13_ShadowBack_n1) := csum_loop mixed tabOk envlaw13_ShadowBackOk 0 (exk [1, 2, 7] [6] [(0, [1, 2, 7])]) annLlaw13_ShadowBack_n1_ok declaw13_ShadowBack_n1_ok steplaw13_ShadowBack_n1_ok steplaw13_ShadowBack_n1_nat
noncomputable def Glaw13_ShadowBack_n1 : (Ex → St → Ans) → St → Ans := (sumL declaw13_ShadowBack_n1 stepDlaw13_ShadowBack_n1 outlaw13_ShadowBack_n1)
theorem Glaw13_ShadowBack_n1_ok : CSum Try.prog 83 (.loop Llaw13_ShadowBack_n1) Glaw13_ShadowBack_n1 := GNlaw13_ShadowBack_n1_ok
noncomputable def Llaw13_ShadowBack_n0 : Code := codeAt [1, 1, 0, 0] blaw13_ShadowBack
noncomputable def annLlaw13_ShadowBack_n0 : Ann := .none
theorem annLlaw13_ShadowBack_n0_ok : AnnOk Try.prog 83 Llaw13_ShadowBack_n0 annLlaw13_ShadowBack_n0 := (annOk_none _ _ _)
abbrev Ilaw13_ShadowBack_n0 := (List (List UInt8)) × (List (List UInt8)) × (Int)
abbrev Ylaw13_ShadowBack_n0 := (Bool)
def Slaw13_ShadowBack_n0 : Ilaw13_ShadowBack_n0 → St := fun (t0, t1, t2) => { env := [(0, AV.ro Ty.str t0), (1, AV.ro Ty.str t1), (2, AV.int IntKind.i64 t2)], stk := [[]], H := [], blk := 12288 }
def declaw13_ShadowBack_n0 (s : St) : Option Ilaw13_ShadowBack_n0 := match s with
  | { env := [(0, AV.ro Ty.str t0), (1, AV.ro Ty.str t1), (2, AV.int IntKind.i64 t2)], stk := [[]], H := [], blk := 12288 } => some (t0, t1, t2)
  | _ => none
theorem declaw13_ShadowBack_n0_ok (s : St) (x : Ilaw13_ShadowBack_n0) (h : declaw13_ShadowBack_n0 s = some x) : s = Slaw13_ShadowBack_n0 x := by
  unfold declaw13_ShadowBack_n0 at h
  split at h
  · cases h; rfl
  · cases h
def outlaw13_ShadowBack_n0 : Ilaw13_ShadowBack_n0 → (Ex → St → Ans) → Ylaw13_ShadowBack_n0 → Ans := fun (t0, t1, t2) K => fun t23_y => K (Ex.norm) { env := [(0, AV.ro Ty.str t0), (1, AV.ro Ty.str t1), (2, AV.int IntKind.i64 t2), (23, AV.bool t23_y)], stk := [[]], H := [], blk := 12288 }
def nodelaw13_ShadowBack_n0 {β : Type} : Ilaw13_ShadowBack_n0 → (Ylaw13_ShadowBack_n0 → Option β) → Option β := fun (t0, t1, t2) exit => (bif decide ((↑(List.length t0) : Int) > (200 : Int)) then (exit (true)) else (exit (decide ((↑(List.length t1) : Int) > (200 : Int)))))
def nodeDlaw13_ShadowBack_n0 (i : Ilaw13_ShadowBack_n0) : Option Ylaw13_ShadowBack_n0 := nodelaw13_ShadowBack_n0 i some
theorem nodelaw13_ShadowBack_n0_nat (i : Ilaw13_ShadowBack_n0) (k : Ylaw13_ShadowBack_n0 → Ans) : nodelaw13_ShadowBack_n0 i k = bindO (nodeDlaw13_ShadowBack_n0 i) k := by
  obtain ⟨t0, t1, t2⟩ := i
  simp only [nodeDlaw13_ShadowBack_n0, nodelaw13_ShadowBack_n0, bindO_cond, bindO_assoc, bindO_none, bindO_pure, bindO_elim, bindO_unP]
theorem nodelaw13_ShadowBack_n0_ok (i : Ilaw13_ShadowBack_n0) (K : Ex → St → Ans) : codeI Try.tab envlaw13_ShadowBack noHint (codeD Try.tab envlaw13_ShadowBack noHint 0 64) 70 83 annLlaw13_ShadowBack_n0 Llaw13_ShadowBack_n0 (weakP 0 (exk [0, 1, 2, 23] [6] []) K) (Slaw13_ShadowBack_n0 i) = nodelaw13_ShadowBack_n0 i (outlaw13_ShadowBack_n0 i K) := by kernel_rfl
theorem GNlaw13_ShadowBack_n0_ok : CSum Try.prog 83 Llaw13_ShadowBack_n0 (sumN declaw13_ShadowBack_n0 nodeDlaw13_ShadowBack_n0 outlaw13_ShadowBack_n0) := csum_node mixed tabOk envlaw13_ShadowBackOk 0 (exk [0, 1, 2, 23] [6] []) annLlaw13_ShadowBack_n0_ok declaw13_ShadowBack_n0_ok nodelaw13_ShadowBack_n0_ok nodelaw13_ShadowBack_n0_nat
noncomputable def Glaw13_ShadowBack_n0 : (Ex → St → Ans) → St → Ans := (sumN declaw13_ShadowBack_n0 nodeDlaw13_ShadowBack_n0 outlaw13_ShadowBack_n0)
theorem Glaw13_ShadowBack_n0_ok : CSum Try.prog 83 Llaw13_ShadowBack_n0 Glaw13_ShadowBack_n0 := GNlaw13_ShadowBack_n0_ok
noncomputable def annlaw13_ShadowBack : Ann := (.seq .none (.seq .none (.seq (.seq (.cut 0 [0, 1, 2] Glaw13_ShadowBack_n0) .none) (.seq .none (.seq (.seq .none (.block (.cut 0 [0, 1, 2, 7, 8] Glaw13_ShadowBack_n1))) (.seq .none (.seq .none (.seq (.seq .none (.block (.cut 0 [1, 2, 7, 9, 10, 11] Glaw13_ShadowBack_n2))) (.seq .none (.seq .none (.seq (.cut 0 [7, 9, 10, 12, 13] Glaw13_ShadowBack_n3) .none)))))))))))
theorem annlaw13_ShadowBack_ok : AnnOk Try.prog 83 blaw13_ShadowBack annlaw13_ShadowBack := ⟨(annOk_none _ _ _), ⟨(annOk_none _ _ _), ⟨⟨Glaw13_ShadowBack_n0_ok, (annOk_none _ _ _)⟩, ⟨(annOk_none _ _ _), ⟨⟨(annOk_none _ _ _), Glaw13_ShadowBack_n1_ok⟩, ⟨(annOk_none _ _ _), ⟨(annOk_none _ _ _), ⟨⟨(annOk_none _ _ _), Glaw13_ShadowBack_n2_ok⟩, ⟨(annOk_none _ _ _), ⟨(annOk_none _ _ _), ⟨Glaw13_ShadowBack_n3_ok, (annOk_none _ _ _)⟩⟩⟩⟩⟩⟩⟩⟩⟩⟩⟩
abbrev Alaw13_ShadowBack := (List (List UInt8)) × (List (List UInt8)) × (Int)
abbrev Ylaw13_ShadowBack := (Bool)
def fnlaw13_ShadowBack {β : Type} : Alaw13_ShadowBack → (Ylaw13_ShadowBack → Option β) → Option β := fun (a0, a1, a2) exit => (bindO (fnDlaw13_works ()) fun r => (bif !r then (exit (false)) else (bindO (nodeDlaw13_ShadowBack_n0 (a0, a1, a2)) fun t23 => (bif t23 then (exit (true)) else (bindO (fnDshadow_New_string ()) fun _ => (bindO (loopD (stepDlaw13_ShadowBack_n1 (a0, a1, a2)) FUEL ((0 : Int), [])) fun o2 => (bindO (fnDshadow_Shadow_string_Keep ([], o2)) fun o1 => (bindO (fnDshadow_Shadow_string_Get (a2, o1, [])) (unP fun r_0 r_1 => (bindO (loopD (stepDlaw13_ShadowBack_n2 (a1, a2, r_0, r_1, o1)) FUEL ((0 : Int), [])) fun o2_2 => (bindO (fnDshadow_Shadow_string_Back_2 (o1, o2_2)) fun _ => (bindO (fnDshadow_Shadow_string_Get (a2, o1, [])) (unP fun r_0_2 r_1_2 => (bindO (nodeDlaw13_ShadowBack_n3 (r_0, r_1, r_0_2, r_1_2, o1)) fun t6 => (exit (t6))))))))))))))))
def fnDlaw13_ShadowBack (a : Alaw13_ShadowBack) : Option Ylaw13_ShadowBack := fnlaw13_ShadowBack a some
theorem fnlaw13_ShadowBack_nat (a : Alaw13_ShadowBack) (k : Ylaw13_ShadowBack → Ans) : fnlaw13_ShadowBack a k = bindO (fnDlaw13_ShadowBack a) k := by
  obtain ⟨a0, a1, a2⟩ := a
  simp only [fnDlaw13_ShadowBack, fnlaw13_ShadowBack, bindO_cond, bindO_assoc, bindO_none, bindO_pure, bindO_elim, bindO_unP]
def argslaw13_ShadowBack : Alaw13_ShadowBack → List AV × List AE.Obj := fun (a0, a1, a2) => ([AV.ro Ty.str a0, AV.ro Ty.str a1, AV.int IntKind.i64 a2], [])
def decAlaw13_ShadowBack (l : List AV) (H : List AE.Obj) : Option Alaw13_ShadowBack := match l, H with
  | [AV.ro Ty.str a0, AV.ro Ty.str a1, AV.int IntKind.i64 a2], [] => some (a0, a1, a2)
  | _, _ => none
theorem decAlaw13_ShadowBack_ok (l : List AV) (H : List AE.Obj) (a : Alaw13_ShadowBack) (h : decAlaw13_ShadowBack l H = some a) : (l, H) = argslaw13_ShadowBack a := by
  unfold decAlaw13_ShadowBack at h
  split at h
  · cases h; rfl
  · cases h
def outlaw13_ShadowBack : Alaw13_ShadowBack → (AV → List AE.Obj → Ans) → Ylaw13_ShadowBack → Ans := fun (a0, a1, a2) K => fun r_y => K (AV.bool r_y) []
theorem fnlaw13_ShadowBack_ok (a : Alaw13_ShadowBack) (K : AV → List AE.Obj → Ans) : fnE Try.tab envlaw13_ShadowBack noHint 0 70 3 Try.f3.ntmps Try.f3.results.toList annlaw13_ShadowBack blaw13_ShadowBack (argslaw13_ShadowBack a).1 (argslaw13_ShadowBack a).2 K = fnlaw13_ShadowBack a (outlaw13_ShadowBack a K) := by kernel_rfl
def vFlaw13_ShadowBack (a : Alaw13_ShadowBack) (K : AV → List AE.Obj → Ans) : Ans := bindO (fnDlaw13_ShadowBack a) fun y => outlaw13_ShadowBack a K y
def Flaw13_ShadowBack : List AV → List AE.Obj → (AV → List AE.Obj → Ans) → Ans := fun l H K => bindO (decAlaw13_ShadowBack l H) fun a => vFlaw13_ShadowBack a K
theorem Flaw13_ShadowBack_ok : FuncOk Try.prog 3 Flaw13_ShadowBack := func_mkD (hint := noHint) (d := 0) (n := 70) mixed tabOk envlaw13_ShadowBackOk Try.func3 (bodySome (by kernel_rfl)) (by decide +kernel) annlaw13_ShadowBack_ok decAlaw13_ShadowBack_ok fnlaw13_ShadowBack_ok fnlaw13_ShadowBack_nat
end Go.Proofs.R6
namespace Go.Proofs.R6
open Go Go.AE

theorem mput_length {α : Type} (n : Int) (x : α) : ∀ l : List (Int × α), l.length ≤ (mput n x l).length ∧ (mput n x l).length ≤ l.length + 1
  | [] => by simp [mput]
  | (m, y) :: r => by
    rw [mput]
    cases h : (n == m)
    · have := mput_length n x r
      simp only [cond_false, List.length_cons]
      omega
    · simp
theorem keysOf_length {α : Type} (l : List (Int × α)) : (keysOf l).length = l.length := by simp [keysOf]

theorem shadow_put (k : Int) (x : List UInt8) (o1 o2 : List (Int × List UInt8)) : fnDshadow_Shadow_string_Put (k, x, o1, o2) = some (mput k x o2) := rfl
theorem shadow_get (k : Int) (o1 o2 : List (Int × List UInt8)) : fnDshadow_Shadow_string_Get (k, o1, o2) = some (if mhas k o2 then (mget k [] o2, true) else (mget k [] o1, mhas k o1)) := by
  simp only [fnDshadow_Shadow_string_Get, fnshadow_Shadow_string_Get]
  cases mhas k o2 <;> rfl
/-- What stays, behind a Keep. -/
def keepM {α : Type} (z : α) (o1 o2 : List (Int × α)) : List (Int × α) := (keysOf o2).foldl (fun s k => mput k (mget k z o2) s) o1
theorem shadow_keep (o1 o2 : List (Int × List UInt8)) (h : o2.length ≤ 1000000) : fnDshadow_Shadow_string_Keep (o1, o2) = some (keepM [] o1 o2) := by
  have hl := loopD_told (f := stepDshadow_Shadow_string_Keep_n0 o2) (fun k s => .inl (mput k (mget k [] o2) s)) id (fun _ => True) (fun s _ => rfl) (fun k r s _ => ⟨rfl, fun _ _ => trivial⟩) (keysOf o2) o1 trivial (by rw [keysOf_length]; omega)
  rw [foldX_inl] at hl
  simp only [fnDshadow_Shadow_string_Keep, fnshadow_Shadow_string_Keep, show fnDshadow_Shadow_string_made (o1, o2) = some () from rfl, show fnDshadow_layer_string_each o2 = some () from rfl, bindO_pure, ble_true h, cond_true, hl]
  rfl
end Go.Proofs.R6
namespace Go.Proofs.R6
open Go Go.AE
theorem shadow_put_i (k : Int) (x : Int) (o1 o2 : List (Int × Int)) : fnDshadow_Shadow_int_Put (k, x, o1, o2) = some (mput k x o2) := rfl
theorem shadow_get_i (k : Int) (o1 o2 : List (Int × Int)) : fnDshadow_Shadow_int_Get (k, o1, o2) = some (if mhas k o2 then (mget k 0 o2, true) else (mget k 0 o1, mhas k o1)) := by
  simp only [fnDshadow_Shadow_int_Get, fnshadow_Shadow_int_Get]
  cases mhas k o2 <;> rfl
theorem shadow_keep_i (o1 o2 : List (Int × Int)) (h : o2.length ≤ 1000000) : fnDshadow_Shadow_int_Keep (o1, o2) = some (keepM 0 o1 o2) := by
  have hl := loopD_told (f := stepDshadow_Shadow_int_Keep_n0 o2) (fun k s => .inl (mput k (mget k 0 o2) s)) id (fun _ => True) (fun s _ => rfl) (fun k r s _ => ⟨rfl, fun _ _ => trivial⟩) (keysOf o2) o1 trivial (by rw [keysOf_length]; omega)
  rw [foldX_inl] at hl
  simp only [fnDshadow_Shadow_int_Keep, fnshadow_Shadow_int_Keep, show fnDshadow_Shadow_int_made (o1, o2) = some () from rfl, show fnDshadow_layer_int_each o2 = some () from rfl, bindO_pure, ble_true h, cond_true, hl]
  rfl
theorem works_true : fnDlaw13_works () = some true := by
  have hk : keepM (0 : Int) [] [(3, 5)] = [(3, 5)] := by simp [keepM, keysOf, mput, mget]
  simp only [fnDlaw13_works, fnlaw13_works, show fnDshadow_New_int () = some () from rfl, bindO_pure, shadow_put_i, show mput (3 : Int) (5 : Int) [] = [(3, 5)] from rfl, shadow_keep_i [] [(3, 5)] (by decide), hk, show mput (3 : Int) (6 : Int) [] = [(3, 6)] from rfl, shadow_get_i]
  rfl

theorem put_loop (l : List (List UInt8)) (a1 : List (List UInt8)) (a2 : Int) (h : l.length ≤ 200) : ∃ o2, loopD (stepDlaw13_ShadowBack_n1 (l, a1, a2)) FUEL (0, []) = some o2 ∧ o2.length ≤ 200 := by
  refine loopD_each l (fun j (o2 : List (Int × List UInt8)) => ((j : Int), o2)) (fun j o2 => o2.length ≤ j) _ ?_ ?_ (s0 := []) (by simp) (by omega)
  · intro j x o2 hj hlt hi
    refine .inl ⟨mput (Int.tmod (IntKind.wrap .i64 (3 * (j : Int))) 100) x o2, ?_, by have := (mput_length (Int.tmod (IntKind.wrap .i64 (3 * (j : Int))) 100) x o2).2; omega⟩
    simp only [stepDlaw13_ShadowBack_n1, steplaw13_ShadowBack_n1, dec_true (show (j : Int) < (l.length : Int) by omega), cond_true, nth_of hj, bindO_pure, shadow_put, wrap64_nat (show j < 9223372036854775807 by omega)]
  · intro o2 hi
    exact ⟨o2, by simp only [stepDlaw13_ShadowBack_n1, steplaw13_ShadowBack_n1, dec_false (show ¬ (l.length : Int) < (l.length : Int) by omega), cond_false], by omega⟩
theorem put_again (l : List (List UInt8)) (a : Int) (r : List UInt8) (b : Bool) (o1 : List (Int × List UInt8)) (h : l.length ≤ 200) : ∃ o2, loopD (stepDlaw13_ShadowBack_n2 (l, a, r, b, o1)) FUEL (0, []) = some o2 ∧ True := by
  refine loopD_each l (fun j (o2 : List (Int × List UInt8)) => ((j : Int), o2)) (fun _ _ => True) _ ?_ ?_ (s0 := []) trivial (by omega)
  · intro j x o2 hj hlt hi
    refine .inl ⟨mput (Int.tmod (j : Int) 100) x o2, ?_, trivial⟩
    simp only [stepDlaw13_ShadowBack_n2, steplaw13_ShadowBack_n2, dec_true (show (j : Int) < (l.length : Int) by omega), cond_true, nth_of hj, bindO_pure, shadow_put, wrap64_nat (show j < 9223372036854775807 by omega)]
  · intro o2 hi
    exact ⟨o2, by simp only [stepDlaw13_ShadowBack_n2, steplaw13_ShadowBack_n2, dec_false (show ¬ (l.length : Int) < (l.length : Int) by omega), cond_false], trivial⟩

theorem ShadowBack_true (l m : List (List UInt8)) (ask : Int) : fnDlaw13_ShadowBack (l, m, ask) = some true := by
  by_cases hl : l.length ≤ 200
  · by_cases hm : m.length ≤ 200
    · obtain ⟨o2, h1, h2⟩ := put_loop l m ask hl
      have hn0 : nodeDlaw13_ShadowBack_n0 (l, m, ask) = some false := by
        simp only [nodeDlaw13_ShadowBack_n0, nodelaw13_ShadowBack_n0, dec_false (show ¬ (l.length : Int) > 200 by omega), dec_false (show ¬ (m.length : Int) > 200 by omega), cond_false]
      obtain ⟨o3, h3, _⟩ := put_again m ask (mget ask [] (keepM [] [] o2)) (mhas ask (keepM [] [] o2)) (keepM [] [] o2) hm
      simp only [fnDlaw13_ShadowBack, fnlaw13_ShadowBack, works_true, bindO_pure, Bool.not_true, cond_false, hn0, show fnDshadow_New_string () = some () from rfl, h1, shadow_keep [] o2 (by omega), shadow_get, mhas, Bool.false_eq_true, if_false, unP, h3,
        show fnDshadow_Shadow_string_Back_2 (keepM [] [] o2, o3) = some () from rfl]
      simp only [nodeDlaw13_ShadowBack_n3, nodelaw13_ShadowBack_n3, beq_self_eq_true, cond_true]
      rfl
    · have hn0 : nodeDlaw13_ShadowBack_n0 (l, m, ask) = some true := by
        simp only [nodeDlaw13_ShadowBack_n0, nodelaw13_ShadowBack_n0, dec_false (show ¬ (l.length : Int) > 200 by omega), dec_true (show (m.length : Int) > 200 by omega), cond_false]
      simp only [fnDlaw13_ShadowBack, fnlaw13_ShadowBack, works_true, bindO_pure, Bool.not_true, cond_false, hn0, cond_true]
  · have hn0 : nodeDlaw13_ShadowBack_n0 (l, m, ask) = some true := by
      simp only [nodeDlaw13_ShadowBack_n0, nodelaw13_ShadowBack_n0, dec_true (show (l.length : Int) > 200 by omega), cond_true]
    simp only [fnDlaw13_ShadowBack, fnlaw13_ShadowBack, works_true, bindO_pure, Bool.not_true, cond_false, hn0, cond_true]
end Go.Proofs.R6

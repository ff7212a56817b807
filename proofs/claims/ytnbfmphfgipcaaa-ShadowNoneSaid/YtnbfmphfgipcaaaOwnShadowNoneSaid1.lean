/- What the functions that ShadowNoneSaid reaches compute: part 1. -/
import Derived.Test.YtnbfmphfgipcaaaAe3
import Derived.Test.YtnbfmphfgipcaaaProg
import Derived.Test.YtnbfmphfgipcaaaChecked
import Derived.Eval
import Derived.Shelf.Sort.Plain
import Derived.Shelf.Slices.In.SortNone
set_option linter.unusedVariables false
set_option linter.unusedSimpArgs false
namespace Go.Proofs
instance Try.bt : Go.AE.BT := ⟨5, 1000000000⟩
def Try.tab : Go.AE.Tab := [
  (1, ⟨.sc, 1, 8, [.nilf], none⟩),
  (2, ⟨.sc, 1, 8, [.int .i64 0], some (.int .i64)⟩),
  (3, ⟨.sc, 1, 8, [.int .i64 0], some (.int .i64)⟩),
  (4, ⟨.sc, 1, 1, [.bool false], some .bool⟩),
  (5, ⟨.sc, 1, 1, [.int .u8 0], some (.int .u8)⟩),
  (7, ⟨.struct [(2, 0), (3, 1), (4, 2), (6, 3)], 4, 24, [.int .i64 0, .int .i64 0, .bool false, .int .u8 0], some (.st (.pair (.int .i64) (.pair (.int .i64) (.pair .bool (.int .u8)))))⟩),
  (9, ⟨.sc, 1, 16, [.str []], some .str⟩),
  (12, ⟨.sc, 1, 8, [.int .u64 0], some (.int .u64)⟩),
  (20, ⟨.sc, 1, 16, [.nili], none⟩),
  (21, ⟨.sc, 1, 4, [.int .i32 0], some (.int .i32)⟩),
  (22, ⟨.slice 9, 1, 24, [.nils], some (.list .str)⟩),
  (23, ⟨.sc, 1, 8, [.nilf], none⟩),
  (24, ⟨.ptr 54, 1, 8, [.nilp], none⟩),
  (25, ⟨.sc, 1, 8, [.nilf], none⟩),
  (26, ⟨.sc, 1, 8, [.nilf], none⟩),
  (28, ⟨.sc, 1, 8, [.nilf], none⟩),
  (29, ⟨.sc, 1, 8, [.nilf], none⟩),
  (30, ⟨.sc, 1, 8, [.nilf], none⟩),
  (31, ⟨.slice 39, 1, 24, [.nils], some (.list (.st (.pair (.int .i64) (.pair (.int .i64) (.int .i64)))))⟩),
  (32, ⟨.ptr 60, 1, 8, [.nilp], none⟩),
  (33, ⟨.sc, 1, 8, [.nilf], none⟩),
  (34, ⟨.ptr 37, 1, 8, [.nilp], none⟩),
  (35, ⟨.slice 43, 1, 24, [.nils], some (.list (.st (.pair (.int .i64) (.int .i64))))⟩),
  (36, ⟨.struct [(35, 0), (35, 1)], 2, 48, [.nils, .nils], some (.st (.pair (.list (.st (.pair (.int .i64) (.int .i64)))) (.list (.st (.pair (.int .i64) (.int .i64))))))⟩),
  (37, ⟨.struct [(35, 0), (35, 1)], 2, 48, [.nils, .nils], some (.st (.pair (.list (.st (.pair (.int .i64) (.int .i64)))) (.list (.st (.pair (.int .i64) (.int .i64))))))⟩),
  (38, ⟨.struct [(3, 0), (3, 1), (3, 2)], 3, 24, [.int .i64 0, .int .i64 0, .int .i64 0], some (.st (.pair (.int .i64) (.pair (.int .i64) (.int .i64))))⟩),
  (39, ⟨.struct [(3, 0), (3, 1), (3, 2)], 3, 24, [.int .i64 0, .int .i64 0, .int .i64 0], some (.st (.pair (.int .i64) (.pair (.int .i64) (.int .i64))))⟩),
  (40, ⟨.sc, 1, 8, [.nilf], none⟩),
  (41, ⟨.sc, 1, 8, [.nilf], none⟩),
  (42, ⟨.struct [(3, 0), (3, 1)], 2, 16, [.int .i64 0, .int .i64 0], some (.st (.pair (.int .i64) (.int .i64)))⟩),
  (43, ⟨.struct [(3, 0), (3, 1)], 2, 16, [.int .i64 0, .int .i64 0], some (.st (.pair (.int .i64) (.int .i64)))⟩),
  (45, ⟨.sc, 1, 8, [.nilf], none⟩),
  (46, ⟨.sc, 1, 8, [.nilf], none⟩),
  (47, ⟨.sc, 1, 8, [.nilf], none⟩),
  (48, ⟨.sc, 1, 8, [.nilf], none⟩),
  (49, ⟨.sc, 1, 8, [.nilf], none⟩),
  (50, ⟨.sc, 1, 8, [.nilf], none⟩),
  (51, ⟨.map 3 9, 1, 8, [.nilm], none⟩),
  (52, ⟨.map 3 9, 1, 8, [.nilm], none⟩),
  (53, ⟨.struct [(52, 0), (52, 1)], 2, 16, [.nilm, .nilm], none⟩),
  (54, ⟨.struct [(52, 0), (52, 1)], 2, 16, [.nilm, .nilm], none⟩),
  (55, ⟨.sc, 1, 8, [.nilf], none⟩),
  (56, ⟨.sc, 1, 8, [.nilf], none⟩),
  (57, ⟨.map 3 3, 1, 8, [.nilm], none⟩),
  (58, ⟨.map 3 3, 1, 8, [.nilm], none⟩),
  (59, ⟨.struct [(58, 0), (58, 1)], 2, 16, [.nilm, .nilm], none⟩),
  (60, ⟨.struct [(58, 0), (58, 1)], 2, 16, [.nilm, .nilm], none⟩),
  (61, ⟨.sc, 1, 8, [.nilf], none⟩),
  (62, ⟨.sc, 1, 8, [.nilf], none⟩),
  (63, ⟨.sc, 1, 8, [.nilf], none⟩),
  (64, ⟨.slice 3, 1, 24, [.nils], some (.list (.int .i64))⟩),
  (65, ⟨.sc, 1, 8, [.nilf], none⟩),
  (66, ⟨.sc, 1, 8, [.nilf], none⟩),
  (67, ⟨.sc, 1, 8, [.nilf], none⟩),
  (68, ⟨.sc, 1, 8, [.int .u64 0], some (.int .u64)⟩),
  (69, ⟨.sc, 1, 8, [.nilf], none⟩),
  (70, ⟨.sc, 1, 8, [.int .i64 0], some (.int .i64)⟩),
  (72, ⟨.sc, 1, 8, [.nilf], none⟩),
  (73, ⟨.sc, 1, 8, [.nilf], none⟩),
  (74, ⟨.sc, 1, 8, [.nilf], none⟩),
  (75, ⟨.sc, 1, 8, [.nilf], none⟩),
  (76, ⟨.sc, 1, 8, [.nilf], none⟩),
  (77, ⟨.sc, 1, 4, [.int .u32 0], some (.int .u32)⟩),
  (78, ⟨.sc, 1, 8, [.nilf], none⟩),
  (79, ⟨.sc, 1, 8, [.int .u64 0], some (.int .u64)⟩),
  (80, ⟨.sc, 1, 8, [.int .u64 0], some (.int .u64)⟩),
  (81, ⟨.sc, 1, 8, [.nilf], none⟩),
  (82, ⟨.sc, 1, 8, [.nilf], none⟩),
  (83, ⟨.sc, 1, 8, [.nilf], none⟩),
  (84, ⟨.ptr 3, 1, 8, [.nilp], none⟩),
  (85, ⟨.sc, 1, 8, [.nilf], none⟩),
  (86, ⟨.sc, 1, 8, [.nilf], none⟩),
  (87, ⟨.ptr 80, 1, 8, [.nilp], none⟩),
  (89, ⟨.sc, 1, 8, [.nilf], none⟩),
  (90, ⟨.sc, 1, 8, [.nilf], none⟩),
  (98, ⟨.sc, 1, 8, [.nilf], none⟩),
  (99, ⟨.ptr 5, 1, 8, [.nilp], none⟩)]
end Go.Proofs
namespace Go.Proofs.R6
open Go Go.AE
theorem tabOk : TabOk Try.prog Try.tab := tabOk_of_check (by kernel_rfl)
theorem mixed : Try.prog.follows .mixedOrders = true := Checked.mixed Try.checked
end Go.Proofs.R6
namespace Go.Proofs
open Go.Shelf Go.Sort Go.RowKit
def Try.lays189_ren : Go.Shelf.Ren := ⟨fun | 189 => 34 | 125 => 37 | 257 => 36 | 128 => 47 | 129 => 48 | 294 => 38 | 295 => 39 | 296 => 40 | 297 => 41 | 298 => 42 | 299 => 43 | 216 => 44 | 300 => 45 | 301 => 46 | 328 => 49 | 329 => 50 | 330 => 51 | 331 => 52 | 332 => 53 | 215 => 54 | 343 => 55 | n => n, fun | 28 => 64 | 3 => 3 | 46 => 68 | 0 => 0 | 51 => 77 | 53 => 79 | 4 => 4 | 183 => 71 | 182 => 70 | 131 => 44 | 5 => 5 | 9 => 9 | 218 => 80 | 222 => 84 | 228 => 87 | 229 => 88 | n => n, fun | n => n⟩
theorem Try.lays189 : Go.Proofs.Lays.n189 Try.prog Try.lays189_ren := {
  mixed := by kernel_rfl
  f125 := Try.func37.trans (congrArg some (by kernel_rfl))
  f128 := Try.func47.trans (congrArg some (by kernel_rfl))
  f129 := Try.func48.trans (congrArg some (by kernel_rfl))
  f189 := Try.func34.trans (congrArg some (by kernel_rfl))
  f215 := Try.func54.trans (congrArg some (by kernel_rfl))
  f216 := Try.func44.trans (congrArg some (by kernel_rfl))
  f257 := Try.func36.trans (congrArg some (by kernel_rfl))
  f294 := Try.func38.trans (congrArg some (by kernel_rfl))
  f295 := Try.func39.trans (congrArg some (by kernel_rfl))
  f296 := Try.func40.trans (congrArg some (by kernel_rfl))
  f297 := Try.func41.trans (congrArg some (by kernel_rfl))
  f298 := Try.func42.trans (congrArg some (by kernel_rfl))
  f299 := Try.func43.trans (congrArg some (by kernel_rfl))
  f300 := Try.func45.trans (congrArg some (by kernel_rfl))
  f301 := Try.func46.trans (congrArg some (by kernel_rfl))
  f328 := Try.func49.trans (congrArg some (by kernel_rfl))
  f329 := Try.func50.trans (congrArg some (by kernel_rfl))
  f330 := Try.func51.trans (congrArg some (by kernel_rfl))
  f331 := Try.func52.trans (congrArg some (by kernel_rfl))
  f332 := Try.func53.trans (congrArg some (by kernel_rfl))
  f343 := Try.func55.trans (congrArg some (by kernel_rfl))
  t0 := Try.underlying0
  a0 := Try.isAgg0
  z0 := Try.sizeOf0
  v0 := Try.zeroValue0
  t3 := Try.underlying3
  a3 := Try.isAgg3
  z3 := Try.sizeOf3
  v3 := Try.zeroValue3
  t4 := Try.underlying4
  a4 := Try.isAgg4
  z4 := Try.sizeOf4
  v4 := Try.zeroValue4
  t5 := Try.underlying5
  a5 := Try.isAgg5
  z5 := Try.sizeOf5
  v5 := Try.zeroValue5
  t9 := Try.underlying9
  a9 := Try.isAgg9
  z9 := Try.sizeOf9
  v9 := Try.zeroValue9
  t28 := Try.underlying64
  a28 := Try.isAgg64
  z28 := Try.sizeOf64
  v28 := Try.zeroValue64
  t46 := Try.underlying68
  a46 := Try.isAgg68
  z46 := Try.sizeOf68
  v46 := Try.zeroValue68
  t51 := Try.underlying77
  a51 := Try.isAgg77
  z51 := Try.sizeOf77
  v51 := Try.zeroValue77
  t53 := Try.underlying79
  a53 := Try.isAgg79
  z53 := Try.sizeOf79
  v53 := Try.zeroValue79
  t131 := Try.underlying44
  a131 := Try.isAgg44
  z131 := Try.sizeOf44
  v131 := Try.zeroValue44
  t182 := Try.underlying70
  a182 := Try.isAgg70
  z182 := Try.sizeOf70
  v182 := Try.zeroValue70
  t183 := Try.underlying71
  a183 := Try.isAgg71
  z183 := Try.sizeOf71
  v183 := Try.zeroValue71
  t218 := Try.underlying80
  a218 := Try.isAgg80
  z218 := Try.sizeOf80
  v218 := Try.zeroValue80
  t222 := Try.underlying84
  a222 := Try.isAgg84
  z222 := Try.sizeOf84
  v222 := Try.zeroValue84
  t228 := Try.underlying87
  a228 := Try.isAgg87
  z228 := Try.sizeOf87
  v228 := Try.zeroValue87
  t229 := Try.underlying88
  a229 := Try.isAgg88
  z229 := Try.sizeOf88
  v229 := Try.zeroValue88 }
theorem Try.slices_Sort_int (blk off cap : Nat) (zs : List Int) (w : World) (hH : Holds (Value.int .i64) w blk off zs.toArray) (hblk : blk < w.heap.size) (hsz : zs.length < 4611686018427387904) :
    Calls Try.prog 34 #[.slice (some ⟨blk, off, none⟩) zs.length cap] w fun e w' =>
      e = .returned (.tuple #[]) ∧ ∃ n os, w' = grow (putRow (Value.int .i64) (Sort.ahead w n) blk off (zs.mergeSort fun x y => decide (x ≤ y)).toArray) os := Any.slices_Sort_int Try.lays189 blk off cap zs w hH hblk hsz

theorem Try.slices_Sort_int_none (p : Option Addr) (cap : Nat) (w : World) :
    Calls Try.prog 34 #[.slice p 0 cap] w fun e w' => e = .returned (.tuple #[]) ∧ w' = w := Any.slices_Sort_int_none Try.lays189 p cap w
end Go.Proofs
namespace Go.Proofs
open Go.RowKit Go.Maps Go.Sort Go.Shelf
open Go.AE (BT)

theorem R6.info3 : (Try.prog.info? 3).map (fun i => (i.zero, i.size, i.bytes)) = some (some (.int .i64 0), 1, 8) := by kernel_rfl

set_option maxRecDepth 100000 in
set_option maxHeartbeats 4000000 in
theorem R6.each35_ok : AE.IterOk Try.prog 35 (AE.eachStart (.int .i64)) (AE.eachNx (.int .i64)) := by
  refine ⟨⟨_, Try.func35, by kernel_rfl, by decide +kernel⟩, ?_⟩
  intro yv C cap us L J Jx hh hcap hstart hJ0 hJ1 hJ2 hJ3 hY
  obtain ⟨i0, hi, hz0, hz1, hz2⟩ := info_parts R6.info3
  unfold AE.eachStart at hstart
  obtain ⟨l, hl⟩ : ∃ l, AE.eachMap (.int .i64) cap C.H = some l := by
    cases h : AE.eachMap (.int .i64) cap C.H with
    | some l => exact ⟨l, rfl⟩
    | none => rw [h] at hstart; cases hstart
  rw [hl] at hstart
  replace hstart : (cond (Nat.ble l.length 1000000) (some (AE.keysOf l)) none) = some L := hstart
  obtain ⟨hlen, hL⟩ : l.length ≤ 1000000 ∧ AE.keysOf l = L := by
    cases hb : Nat.ble l.length 1000000 with
    | true => rw [hb, cond_true] at hstart; exact ⟨Nat.le_of_ble_eq_true hb, Option.some.inj hstart⟩
    | false => rw [hb, cond_false] at hstart; cases hstart
  obtain ⟨b, mo, es, x, hus, hblive, hcell, hmap, hmr, _, _, hmlive⟩ := AE.each_sees hh hcap hl
  obtain rfl : us = #[.pointer (some ⟨b, 0, none⟩)] := by
    cases us; simpa using hus
  have hb0 : b < C.w.heap.size := by obtain ⟨j, h1, h2⟩ := hblive; exact hh.blk_lt h1 h2
  have hm0 : ∀ m, mo = some m → m < C.w.heap.size := fun m hm => by obtain ⟨j, h1, h2⟩ := hmlive m hm; exact hh.blk_lt h1 h2
  have heslen : es.size = l.length := by have := hmr.length; simpa using this
  obtain ⟨hkeys, hks⟩ := AE.mrel_keys hmr
  clear hstart hcap
  have hlenv : ∀ (p : Option Addr) (n c : Nat) (w : World), (Builtin.len_ #[64] 3 #[.slice p n c]).run Try.prog w = .ok (.int .i64 n) w := fun p n c w => by
    simp [Builtin.len_, run_underlying Try.underlying64]
    rfl
  refine callsIn_of_wp Try.func35 rfl trivial ?_ rfl
  simp only [Try.ntmps35, List.size_toArray, List.length_cons, List.length_nil, Nat.reduceAdd, Nat.reduceSub, Array.replicate_succ, Array.replicate_zero, List.push_toArray, List.append_toArray, List.nil_append, List.cons_append]
  gi_wp2_with (first
    | (gi_at_range; refine AE.wpListIn_range_m _ rfl _ 58 rfl 3 3 Try.underlying58 mo es rfl hmap ?_; intro it hwalk)
    | gi_in)
  try go_frame
  have hB1 : Below C.w.heap.size C.w (C.w.alloc it) := (Below.refl _ C.w).alloc (Nat.le_refl _) _
  gi_loopw [3, 4] (fun p _ wr => ∃ (seen : Array Nat) (vis : List MapEntry), AE.WalkAt wr mo C.w.heap.size es seen ∧ vis.map (·.born) = seen.toList ∧ (∀ e ∈ vis, e ∈ es.toList) ∧ seen.toList.Nodup ∧
      wr.ownsRow (C.w.heap.size + 1) 3 1 p vis.length (vis.map (·.key)) ∧ Below C.w.heap.size C.w wr ∧ C.w.heap.size + 1 ≤ wr.heap.size)
    (fun _ _ wr => AE.walkLeft wr mo C.w.heap.size)
  case atStart =>
    exact ⟨#[], [], hwalk, rfl, by simp, by simp, World.ownsRow_nil _ _ _ _, hB1, by simp⟩
  case round =>
    obtain ⟨seen, vis, hw, hvs, hve, hnd, hrow, hB, hsz⟩ := hrel
    gi_wp2_with (first
      | (gi_at_next; refine AE.wpListIn_next_m _ rfl _ rfl mo C.w.heap.size es seen rfl hw ?_ ?_)
      | gi_in)
    · -- all have come
      intro hall
      have hb0' : (es.toList.map (·.born)).Nodup := by
        cases mo with
        | none => obtain ⟨rfl, _⟩ := hw; simp
        | some m => obtain ⟨ck, since, c0, _, hst, _⟩ := hw; exact hst.2.1
      obtain ⟨hvk, hsort, hvl⟩ := AE.visited_all hmr hb0' hvs hve hnd (by simpa using hall)
      have sortC : CallsIn Fence.wide 0 Try.prog 34 #[u3] wr fun e w' => e = .returned (.tuple #[]) ∧ w'.ownsRow (C.w.heap.size + 1) 3 1 u3 L.length (L.map (Value.int .i64)) ∧ Below C.w.heap.size C.w w' := by
        have hLl : L.length = vis.length := by rw [← hL, ← hsort, List.length_mergeSort, List.length_map]
        rcases hrow.2 with ⟨rfl, hz⟩ | ⟨gb, cap', cur, rfl, hbase, hgb, r1, r2, r3, r4⟩
        · refine (callsIn_wide.2 (Try.slices_Sort_int_none none 0 _)).mono ?_
          rintro e w' ⟨rfl, rfl⟩
          have hL0 : L = [] := List.eq_nil_of_length_eq_zero (by omega)
          rw [hL0]
          exact ⟨rfl, World.ownsRow_nil _ _ _ _, hB⟩
        · have ht : cur.toList.take (vis.map fun e => AE.keyI e.key).length = (vis.map fun e => AE.keyI e.key).map (Value.int .i64) := by
            rw [List.length_map, ← hvk, ← r4, Nat.mul_one]
          have hH : Holds (Value.int .i64) wr gb 0 (vis.map fun e => AE.keyI e.key).toArray := holds_of_blockI hgb ht
          have hgl : gb < wr.heap.size := (Array.getElem?_eq_some_iff.1 hgb).1
          have c := Try.slices_Sort_int gb 0 cap' (vis.map fun e => AE.keyI e.key) wr hH hgl (by rw [List.length_map]; omega)
          rw [List.length_map] at c
          refine (callsIn_wide.2 c).mono ?_
          rintro e w' ⟨rfl, nn, os, rfl⟩
          rw [hsort, hL]
          have hrow' := ownsRow_sortedI (w := wr) (base := C.w.heap.size + 1) (g := gb) (cap := cap') (n := nn) (e := 3) (os := os) (cur := cur) (ss := vis.map fun e => AE.keyI e.key) (ts := L) (by rw [List.length_map]; exact hLl) hbase hgb (by rw [List.length_map]; exact r1) r2 r3
          rw [List.length_map] at hrow'
          rw [hLl]
          exact ⟨rfl, hrow', hB.grown (grownBy_sortedI _) hB.size (fun j hj => by cases hj; omega)⟩
      gi_wp2_with (first | (refine ⟨trivial, rfl, ?_⟩; refine sortC.mono ?_; rintro e w1 ⟨rfl, hrow1, hB2⟩) | gi_in)
      -- between two calls
      obtain ⟨C10, cap10, hw10, hj10⟩ := hJ0
      obtain ⟨hh10, _, _⟩ := hJ1 _ _ _ hj10
      have hp1 : AE.Priv C.w.heap.size C10 w1 := AE.below_priv hh10 (by rw [hw10]; exact hB2) _
      have hj1 : J L (C10.at w1) cap10 := hJ2 _ _ _ _ hj10 hp1
      rcases hrow1.2 with ⟨rfl, hz⟩ | ⟨gb, cap', cur, rfl, hbase, hgb, r1, r2, r3, r4⟩
      · have hLn : L = [] := List.eq_nil_of_length_eq_zero hz
        have hlen1 := hlenv none 0 0 w1
        gi_wp2
        rw [hlen1]
        gi_wp2
        gi_loopw [21, 6] (fun p _ wr => p = .int .i64 0 ∧ wr = w1) (fun _ _ _ => 0)
        case atStart => exact ⟨rfl, rfl⟩
        case round =>
          obtain ⟨rfl, rfl⟩ := hrel
          gi_wp2
          go_end0
          rw [hLn] at hj1
          obtain ⟨_, _, o, ho⟩ := hJ1 _ _ _ hj1
          exact ⟨rfl, .inl ⟨[], C10.at wr, cap10, rfl, hj1, AE.next_end ho⟩⟩
      · have hlen1 := hlenv (some ⟨gb, 0, none⟩) L.length cap' w1
        gi_wp2
        rw [hlen1]
        gi_wp2
        have hLlen : L.length ≤ 1000000 := by rw [← hL, ← hsort, List.length_mergeSort, List.length_map]; omega
        clear hL hsort hvl hvk hall hw hvs hve hnd hrow hb0' sortC
        gi_loopw [21, 6] (fun p _ wr => ∃ (j : Nat) (C1 : AE.Cx) (cap1 : List AE.AV), p = .int .i64 j ∧ j ≤ L.length ∧ C1.w = wr ∧ J (L.drop j) C1 cap1 ∧ wr.heap[gb]? = some (.cells cur 3 (0, 0)) ∧ C1.Beside gb) (fun p _ _ => L.length - (intOf p).toNat)
        case atStart =>
          exact ⟨0, C10.at w1, cap10, rfl, by omega, rfl, hj1, hgb, AE.Beside.new hh10 (by rw [hw10]; omega)⟩
        case round =>
          obtain ⟨j, C1, cap1, rfl, hj, rfl, hjj, hgb1, hbs⟩ := hrel
          by_cases hlt : j < L.length
          · have hlt' : (j : Int) < (L.length : Int) := by omega
            obtain ⟨k, hk⟩ : ∃ k, L[j] = k := ⟨_, rfl⟩
            have hdrop : L.drop j = k :: L.drop (j + 1) := by rw [← hk]; exact List.drop_eq_getElem_cons hlt
            rw [hdrop] at hjj
            obtain ⟨hh1, hv1, o, ho⟩ := hJ1 _ _ _ hjj
            obtain ⟨l1, hl1, rfl⟩ := AE.next_at ho
            obtain ⟨b', mo1, es1, x1, hus1, _, hcell1, _, _, hx1, hmo1, _⟩ := AE.each_sees hh1 hv1 hl1
            obtain rfl : b = b' := by simpa using hus1
            obtain ⟨y, hlook, hy⟩ := AE.lookup_each R6.tabOk hh1 (tl := 58) rfl rfl hx1 hmo1 k
            have hval := hY _ _ _ _ _ hjj ho #[.int .i64 k, y] (by simp only [AE.VRels]; exact ⟨_, _, rfl, by rw [AE.VRel], _, _, rfl, hy, rfl⟩)
            have hcur : cur[j]? = some (.int .i64 k) := by
              have h1 : (cur.toList.take (L.length * 1))[j]? = (L.map (Value.int .i64))[j]? := by rw [r4]
              rw [List.getElem?_take, if_pos (by omega), List.getElem?_map, List.getElem?_eq_getElem hlt, hk] at h1
              simpa using h1
            have hrd : C1.w.cell? ⟨gb, j, none⟩ = some (.int .i64 k) := by
              rw [AE.cell_blk (AE.blkOf_cells hgb1)]
              exact hcur
            clear hY hy ho hmo1 hx1 hv1 hl1 hus1 hJ1
            gi_wp2_with (first
              | (refine AE.wpListIn_callv _ rfl (Operand.tmp 25) #[Operand.tmp 26, Operand.tmp 29] _ rfl hval rfl (by simp [Act.eval]) ?_; rintro e W' (⟨rfl, C', cap2, rfl, hj', hkept⟩ | ⟨rfl, C', rfl, hjx, hkept⟩) <;> refine ⟨_, rfl, ?_⟩)
              | gi_in)
            · obtain ⟨hg2, hb2⟩ := hkept.keep gb (by omega) (Array.getElem?_eq_some_iff.1 hgb1).1 hbs
              refine ⟨⟨j + 1, C', cap2, by simp, by omega, rfl, hj', hg2.trans hgb1, hb2⟩, ?_⟩
              simp [intOf]
              omega
            · refine bodyPost_ret (results_none rfl _ _ _) rfl ?_
              exact ⟨rfl, .inr ⟨C', rfl, hjx⟩⟩
          · have hge : ¬ (j : Int) < (L.length : Int) := by omega
            gi_wp2
            go_end0
            have hd : L.drop j = [] := List.drop_eq_nil_of_le (by omega)
            rw [hd] at hjj
            obtain ⟨_, _, o, ho⟩ := hJ1 _ _ _ hjj
            refine ⟨rfl, .inl ?_⟩
            first | exact ⟨[], C1, cap1, rfl, hjj, AE.next_end ho⟩ | exact ⟨[], C1, rfl, cap1, hjj, AE.next_end ho⟩
    · -- one more
      intro e he hes w' hw' hg hs hen
      have hem : e ∈ es.toList := by simpa using he
      have hkey := hkeys e hem
      have hw0 := hw
      have hes0 : e.born ∉ seen := by simpa using hes
      have hem0 := hem
      obtain ⟨e0, he0⟩ : ∃ e0, e = e0 := ⟨_, rfl⟩
      have hfresh : e.born ∉ seen.toList := by simpa using hes
      have hvlen : vis.length ≤ 1000000 := by
        have h2 : vis.Nodup := AE.nodup_of_map (·.born) (by rw [hvs]; exact hnd)
        have h3 := h2.length_le_of_subset hve
        have h4 := hmr.length
        omega
      have hmx : 2000000 ≤ maxLen := by decide
      obtain ⟨key, val, born⟩ := e
      dsimp only at hkey hen hes hw' ⊢
      obtain ⟨n0, hn0⟩ : ∃ n0, AE.keyI key = n0 := ⟨_, rfl⟩
      rw [hn0] at hkey
      subst hkey
      clear hn0
      have hs2 : wr.heap.size ≤ w'.heap.size ∧ w'.heap.size ≤ wr.heap.size := by omega
      clear hs
      have hrow2 : w'.ownsRow (C.w.heap.size + 1) 3 1 u3 vis.length (vis.map (·.key)) := AE.ownsRow_kept hrow hg (fun r e => by cases e; omega)
      have hblk := AE.ownBlock_base hrow2
      have hB2 : Below C.w.heap.size C.w w' := hB.grown hg hB.size (fun j e => by cases e; omega)
      have hrow3 := AE.ownsRow_kept hrow2 (World.grownBy_alloc w' (.cells #[.int .i64 n0] 3) none) (fun r e => by cases e)
      have e1 : vis.length + 1 ≤ maxLen := by omega
      have e2 : (vis.length + 1) * 8 ≤ 140737488355328 := by omega
      have e3 : C.w.heap.size + 1 ≤ (w'.alloc (.cells #[.int .i64 n0] 3)).heap.size := by rw [World.size_alloc]; omega
      gi_wp2_with (first
        | (gi_at_builtin; refine wpListIn_append_own _ rfl (.tmp 13) (.tmp 15) 64 rfl (C.w.heap.size + 1) 3 i0 (.int .i64 0) 1 8 Try.underlying64 hi hz0 hz1 hz2 rfl (by decide) u3 vis.length (vis.map (·.key)) rfl hrow3 ⟨w'.heap.size, 0, none⟩ 1 1 [.int .i64 n0] rfl rfl (cell_one_new _ _ _) (by simp [Value.oneCell']) e1 e2 e3 ?_; intro v' w3 hown' hgrow _; obtain ⟨g', cap', rfl⟩ := ownsRow_succ hown')
        | gi_in)
      have hWa : AE.WalkAt (w'.alloc (.cells #[.int .i64 n0] 3)) mo C.w.heap.size es (seen.push born) := hw'.kept (World.grownBy_alloc w' _ none) (fun _ _ h => by cases h) (fun h => by cases h)
      have hW3 : AE.WalkAt w3 mo C.w.heap.size es (seen.push born) := hWa.kept hgrow (fun b hb h => by have h1 := hblk _ h; have h2 := hm0 b hb; omega) (fun h => by have h1 := hblk _ h; omega)
      have hB3 : Below C.w.heap.size C.w w3 := (hB2.alloc hB2.size _).grown hgrow (by rw [World.size_alloc]; have := hB2.size; omega) (fun j h => by have h1 := hblk _ h; omega)
      refine ⟨⟨seen.push born, vis ++ [e0], hW3, by rw [List.map_append, hvs, ← he0]; simp, ?_, ?_, ?_, hB3, ?_⟩, hw0.left_lt hem0 hes0 hW3⟩
      · intro y hy
        rcases List.mem_append.1 hy with hy | hy
        · exact hve y hy
        · rw [List.mem_singleton.1 hy, ← he0]; exact hem
      · rw [Array.toList_push]
        exact List.nodup_append.2 ⟨hnd, by simp, fun a ha b hb => by rw [List.mem_singleton.1 hb]; intro e; rw [e] at ha; exact hfresh ha⟩
      · rw [List.map_append, List.length_append, ← he0]
        exact hown'
      · have h1 := hgrow.size
        rw [World.size_alloc] at h1
        omega
end Go.Proofs
namespace Go.Proofs
open Go.RowKit Go.Maps Go.Sort Go.Shelf
open Go.AE (BT)



set_option maxRecDepth 100000 in
set_option maxHeartbeats 4000000 in
theorem R6.each33_ok : AE.IterOk Try.prog 33 (AE.eachStart .str) (AE.eachNx .str) := by
  refine ⟨⟨_, Try.func33, by kernel_rfl, by decide +kernel⟩, ?_⟩
  intro yv C cap us L J Jx hh hcap hstart hJ0 hJ1 hJ2 hJ3 hY
  obtain ⟨i0, hi, hz0, hz1, hz2⟩ := info_parts R6.info3
  unfold AE.eachStart at hstart
  obtain ⟨l, hl⟩ : ∃ l, AE.eachMap .str cap C.H = some l := by
    cases h : AE.eachMap .str cap C.H with
    | some l => exact ⟨l, rfl⟩
    | none => rw [h] at hstart; cases hstart
  rw [hl] at hstart
  replace hstart : (cond (Nat.ble l.length 1000000) (some (AE.keysOf l)) none) = some L := hstart
  obtain ⟨hlen, hL⟩ : l.length ≤ 1000000 ∧ AE.keysOf l = L := by
    cases hb : Nat.ble l.length 1000000 with
    | true => rw [hb, cond_true] at hstart; exact ⟨Nat.le_of_ble_eq_true hb, Option.some.inj hstart⟩
    | false => rw [hb, cond_false] at hstart; cases hstart
  obtain ⟨b, mo, es, x, hus, hblive, hcell, hmap, hmr, _, _, hmlive⟩ := AE.each_sees hh hcap hl
  obtain rfl : us = #[.pointer (some ⟨b, 0, none⟩)] := by
    cases us; simpa using hus
  have hb0 : b < C.w.heap.size := by obtain ⟨j, h1, h2⟩ := hblive; exact hh.blk_lt h1 h2
  have hm0 : ∀ m, mo = some m → m < C.w.heap.size := fun m hm => by obtain ⟨j, h1, h2⟩ := hmlive m hm; exact hh.blk_lt h1 h2
  have heslen : es.size = l.length := by have := hmr.length; simpa using this
  obtain ⟨hkeys, hks⟩ := AE.mrel_keys hmr
  clear hstart hcap
  have hlenv : ∀ (p : Option Addr) (n c : Nat) (w : World), (Builtin.len_ #[64] 3 #[.slice p n c]).run Try.prog w = .ok (.int .i64 n) w := fun p n c w => by
    simp [Builtin.len_, run_underlying Try.underlying64]
    rfl
  refine callsIn_of_wp Try.func33 rfl trivial ?_ rfl
  simp only [Try.ntmps33, List.size_toArray, List.length_cons, List.length_nil, Nat.reduceAdd, Nat.reduceSub, Array.replicate_succ, Array.replicate_zero, List.push_toArray, List.append_toArray, List.nil_append, List.cons_append]
  gi_wp2_with (first
    | (gi_at_range; refine AE.wpListIn_range_m _ rfl _ 52 rfl 3 9 Try.underlying52 mo es rfl hmap ?_; intro it hwalk)
    | gi_in)
  try go_frame
  have hB1 : Below C.w.heap.size C.w (C.w.alloc it) := (Below.refl _ C.w).alloc (Nat.le_refl _) _
  gi_loopw [3, 4] (fun p _ wr => ∃ (seen : Array Nat) (vis : List MapEntry), AE.WalkAt wr mo C.w.heap.size es seen ∧ vis.map (·.born) = seen.toList ∧ (∀ e ∈ vis, e ∈ es.toList) ∧ seen.toList.Nodup ∧
      wr.ownsRow (C.w.heap.size + 1) 3 1 p vis.length (vis.map (·.key)) ∧ Below C.w.heap.size C.w wr ∧ C.w.heap.size + 1 ≤ wr.heap.size)
    (fun _ _ wr => AE.walkLeft wr mo C.w.heap.size)
  case atStart =>
    exact ⟨#[], [], hwalk, rfl, by simp, by simp, World.ownsRow_nil _ _ _ _, hB1, by simp⟩
  case round =>
    obtain ⟨seen, vis, hw, hvs, hve, hnd, hrow, hB, hsz⟩ := hrel
    gi_wp2_with (first
      | (gi_at_next; refine AE.wpListIn_next_m _ rfl _ rfl mo C.w.heap.size es seen rfl hw ?_ ?_)
      | gi_in)
    · -- all have come
      intro hall
      have hb0' : (es.toList.map (·.born)).Nodup := by
        cases mo with
        | none => obtain ⟨rfl, _⟩ := hw; simp
        | some m => obtain ⟨ck, since, c0, _, hst, _⟩ := hw; exact hst.2.1
      obtain ⟨hvk, hsort, hvl⟩ := AE.visited_all hmr hb0' hvs hve hnd (by simpa using hall)
      have sortC : CallsIn Fence.wide 0 Try.prog 34 #[u3] wr fun e w' => e = .returned (.tuple #[]) ∧ w'.ownsRow (C.w.heap.size + 1) 3 1 u3 L.length (L.map (Value.int .i64)) ∧ Below C.w.heap.size C.w w' := by
        have hLl : L.length = vis.length := by rw [← hL, ← hsort, List.length_mergeSort, List.length_map]
        rcases hrow.2 with ⟨rfl, hz⟩ | ⟨gb, cap', cur, rfl, hbase, hgb, r1, r2, r3, r4⟩
        · refine (callsIn_wide.2 (Try.slices_Sort_int_none none 0 _)).mono ?_
          rintro e w' ⟨rfl, rfl⟩
          have hL0 : L = [] := List.eq_nil_of_length_eq_zero (by omega)
          rw [hL0]
          exact ⟨rfl, World.ownsRow_nil _ _ _ _, hB⟩
        · have ht : cur.toList.take (vis.map fun e => AE.keyI e.key).length = (vis.map fun e => AE.keyI e.key).map (Value.int .i64) := by
            rw [List.length_map, ← hvk, ← r4, Nat.mul_one]
          have hH : Holds (Value.int .i64) wr gb 0 (vis.map fun e => AE.keyI e.key).toArray := holds_of_blockI hgb ht
          have hgl : gb < wr.heap.size := (Array.getElem?_eq_some_iff.1 hgb).1
          have c := Try.slices_Sort_int gb 0 cap' (vis.map fun e => AE.keyI e.key) wr hH hgl (by rw [List.length_map]; omega)
          rw [List.length_map] at c
          refine (callsIn_wide.2 c).mono ?_
          rintro e w' ⟨rfl, nn, os, rfl⟩
          rw [hsort, hL]
          have hrow' := ownsRow_sortedI (w := wr) (base := C.w.heap.size + 1) (g := gb) (cap := cap') (n := nn) (e := 3) (os := os) (cur := cur) (ss := vis.map fun e => AE.keyI e.key) (ts := L) (by rw [List.length_map]; exact hLl) hbase hgb (by rw [List.length_map]; exact r1) r2 r3
          rw [List.length_map] at hrow'
          rw [hLl]
          exact ⟨rfl, hrow', hB.grown (grownBy_sortedI _) hB.size (fun j hj => by cases hj; omega)⟩
      gi_wp2_with (first | (refine ⟨trivial, rfl, ?_⟩; refine sortC.mono ?_; rintro e w1 ⟨rfl, hrow1, hB2⟩) | gi_in)
      -- between two calls
      obtain ⟨C10, cap10, hw10, hj10⟩ := hJ0
      obtain ⟨hh10, _, _⟩ := hJ1 _ _ _ hj10
      have hp1 : AE.Priv C.w.heap.size C10 w1 := AE.below_priv hh10 (by rw [hw10]; exact hB2) _
      have hj1 : J L (C10.at w1) cap10 := hJ2 _ _ _ _ hj10 hp1
      rcases hrow1.2 with ⟨rfl, hz⟩ | ⟨gb, cap', cur, rfl, hbase, hgb, r1, r2, r3, r4⟩
      · have hLn : L = [] := List.eq_nil_of_length_eq_zero hz
        have hlen1 := hlenv none 0 0 w1
        gi_wp2
        rw [hlen1]
        gi_wp2
        gi_loopw [21, 6] (fun p _ wr => p = .int .i64 0 ∧ wr = w1) (fun _ _ _ => 0)
        case atStart => exact ⟨rfl, rfl⟩
        case round =>
          obtain ⟨rfl, rfl⟩ := hrel
          gi_wp2
          go_end0
          rw [hLn] at hj1
          obtain ⟨_, _, o, ho⟩ := hJ1 _ _ _ hj1
          exact ⟨rfl, .inl ⟨[], C10.at wr, cap10, rfl, hj1, AE.next_end ho⟩⟩
      · have hlen1 := hlenv (some ⟨gb, 0, none⟩) L.length cap' w1
        gi_wp2
        rw [hlen1]
        gi_wp2
        have hLlen : L.length ≤ 1000000 := by rw [← hL, ← hsort, List.length_mergeSort, List.length_map]; omega
        clear hL hsort hvl hvk hall hw hvs hve hnd hrow hb0' sortC
        gi_loopw [21, 6] (fun p _ wr => ∃ (j : Nat) (C1 : AE.Cx) (cap1 : List AE.AV), p = .int .i64 j ∧ j ≤ L.length ∧ C1.w = wr ∧ J (L.drop j) C1 cap1 ∧ wr.heap[gb]? = some (.cells cur 3 (0, 0)) ∧ C1.Beside gb) (fun p _ _ => L.length - (intOf p).toNat)
        case atStart =>
          exact ⟨0, C10.at w1, cap10, rfl, by omega, rfl, hj1, hgb, AE.Beside.new hh10 (by rw [hw10]; omega)⟩
        case round =>
          obtain ⟨j, C1, cap1, rfl, hj, rfl, hjj, hgb1, hbs⟩ := hrel
          by_cases hlt : j < L.length
          · have hlt' : (j : Int) < (L.length : Int) := by omega
            obtain ⟨k, hk⟩ : ∃ k, L[j] = k := ⟨_, rfl⟩
            have hdrop : L.drop j = k :: L.drop (j + 1) := by rw [← hk]; exact List.drop_eq_getElem_cons hlt
            rw [hdrop] at hjj
            obtain ⟨hh1, hv1, o, ho⟩ := hJ1 _ _ _ hjj
            obtain ⟨l1, hl1, rfl⟩ := AE.next_at ho
            obtain ⟨b', mo1, es1, x1, hus1, _, hcell1, _, _, hx1, hmo1, _⟩ := AE.each_sees hh1 hv1 hl1
            obtain rfl : b = b' := by simpa using hus1
            obtain ⟨y, hlook, hy⟩ := AE.lookup_each R6.tabOk hh1 (tl := 52) rfl rfl hx1 hmo1 k
            have hval := hY _ _ _ _ _ hjj ho #[.int .i64 k, y] (by simp only [AE.VRels]; exact ⟨_, _, rfl, by rw [AE.VRel], _, _, rfl, hy, rfl⟩)
            have hcur : cur[j]? = some (.int .i64 k) := by
              have h1 : (cur.toList.take (L.length * 1))[j]? = (L.map (Value.int .i64))[j]? := by rw [r4]
              rw [List.getElem?_take, if_pos (by omega), List.getElem?_map, List.getElem?_eq_getElem hlt, hk] at h1
              simpa using h1
            have hrd : C1.w.cell? ⟨gb, j, none⟩ = some (.int .i64 k) := by
              rw [AE.cell_blk (AE.blkOf_cells hgb1)]
              exact hcur
            clear hY hy ho hmo1 hx1 hv1 hl1 hus1 hJ1
            gi_wp2_with (first
              | (refine AE.wpListIn_callv _ rfl (Operand.tmp 25) #[Operand.tmp 26, Operand.tmp 29] _ rfl hval rfl (by simp [Act.eval]) ?_; rintro e W' (⟨rfl, C', cap2, rfl, hj', hkept⟩ | ⟨rfl, C', rfl, hjx, hkept⟩) <;> refine ⟨_, rfl, ?_⟩)
              | gi_in)
            · obtain ⟨hg2, hb2⟩ := hkept.keep gb (by omega) (Array.getElem?_eq_some_iff.1 hgb1).1 hbs
              refine ⟨⟨j + 1, C', cap2, by simp, by omega, rfl, hj', hg2.trans hgb1, hb2⟩, ?_⟩
              simp [intOf]
              omega
            · refine bodyPost_ret (results_none rfl _ _ _) rfl ?_
              exact ⟨rfl, .inr ⟨C', rfl, hjx⟩⟩
          · have hge : ¬ (j : Int) < (L.length : Int) := by omega
            gi_wp2
            go_end0
            have hd : L.drop j = [] := List.drop_eq_nil_of_le (by omega)
            rw [hd] at hjj
            obtain ⟨_, _, o, ho⟩ := hJ1 _ _ _ hjj
            refine ⟨rfl, .inl ?_⟩
            first | exact ⟨[], C1, cap1, rfl, hjj, AE.next_end ho⟩ | exact ⟨[], C1, rfl, cap1, hjj, AE.next_end ho⟩
    · -- one more
      intro e he hes w' hw' hg hs hen
      have hem : e ∈ es.toList := by simpa using he
      have hkey := hkeys e hem
      have hw0 := hw
      have hes0 : e.born ∉ seen := by simpa using hes
      have hem0 := hem
      obtain ⟨e0, he0⟩ : ∃ e0, e = e0 := ⟨_, rfl⟩
      have hfresh : e.born ∉ seen.toList := by simpa using hes
      have hvlen : vis.length ≤ 1000000 := by
        have h2 : vis.Nodup := AE.nodup_of_map (·.born) (by rw [hvs]; exact hnd)
        have h3 := h2.length_le_of_subset hve
        have h4 := hmr.length
        omega
      have hmx : 2000000 ≤ maxLen := by decide
      obtain ⟨key, val, born⟩ := e
      dsimp only at hkey hen hes hw' ⊢
      obtain ⟨n0, hn0⟩ : ∃ n0, AE.keyI key = n0 := ⟨_, rfl⟩
      rw [hn0] at hkey
      subst hkey
      clear hn0
      have hs2 : wr.heap.size ≤ w'.heap.size ∧ w'.heap.size ≤ wr.heap.size := by omega
      clear hs
      have hrow2 : w'.ownsRow (C.w.heap.size + 1) 3 1 u3 vis.length (vis.map (·.key)) := AE.ownsRow_kept hrow hg (fun r e => by cases e; omega)
      have hblk := AE.ownBlock_base hrow2
      have hB2 : Below C.w.heap.size C.w w' := hB.grown hg hB.size (fun j e => by cases e; omega)
      have hrow3 := AE.ownsRow_kept hrow2 (World.grownBy_alloc w' (.cells #[.int .i64 n0] 3) none) (fun r e => by cases e)
      have e1 : vis.length + 1 ≤ maxLen := by omega
      have e2 : (vis.length + 1) * 8 ≤ 140737488355328 := by omega
      have e3 : C.w.heap.size + 1 ≤ (w'.alloc (.cells #[.int .i64 n0] 3)).heap.size := by rw [World.size_alloc]; omega
      gi_wp2_with (first
        | (gi_at_builtin; refine wpListIn_append_own _ rfl (.tmp 13) (.tmp 15) 64 rfl (C.w.heap.size + 1) 3 i0 (.int .i64 0) 1 8 Try.underlying64 hi hz0 hz1 hz2 rfl (by decide) u3 vis.length (vis.map (·.key)) rfl hrow3 ⟨w'.heap.size, 0, none⟩ 1 1 [.int .i64 n0] rfl rfl (cell_one_new _ _ _) (by simp [Value.oneCell']) e1 e2 e3 ?_; intro v' w3 hown' hgrow _; obtain ⟨g', cap', rfl⟩ := ownsRow_succ hown')
        | gi_in)
      have hWa : AE.WalkAt (w'.alloc (.cells #[.int .i64 n0] 3)) mo C.w.heap.size es (seen.push born) := hw'.kept (World.grownBy_alloc w' _ none) (fun _ _ h => by cases h) (fun h => by cases h)
      have hW3 : AE.WalkAt w3 mo C.w.heap.size es (seen.push born) := hWa.kept hgrow (fun b hb h => by have h1 := hblk _ h; have h2 := hm0 b hb; omega) (fun h => by have h1 := hblk _ h; omega)
      have hB3 : Below C.w.heap.size C.w w3 := (hB2.alloc hB2.size _).grown hgrow (by rw [World.size_alloc]; have := hB2.size; omega) (fun j h => by have h1 := hblk _ h; omega)
      refine ⟨⟨seen.push born, vis ++ [e0], hW3, by rw [List.map_append, hvs, ← he0]; simp, ?_, ?_, ?_, hB3, ?_⟩, hw0.left_lt hem0 hes0 hW3⟩
      · intro y hy
        rcases List.mem_append.1 hy with hy | hy
        · exact hve y hy
        · rw [List.mem_singleton.1 hy, ← he0]; exact hem
      · rw [Array.toList_push]
        exact List.nodup_append.2 ⟨hnd, by simp, fun a ha b hb => by rw [List.mem_singleton.1 hb]; intro e; rw [e] at ha; exact hfresh ha⟩
      · rw [List.map_append, List.length_append, ← he0]
        exact hown'
      · have h1 := hgrow.size
        rw [World.size_alloc] at h1
        omega
end Go.Proofs
namespace Go.Proofs.R6
open Go Go.AE
theorem iter33_spec : SpecOk Try.prog 100033 (.iter (eachBegin .str) (eachNext .str)) := each_spec R6.each33_ok
theorem iter35_spec : SpecOk Try.prog 100035 (.iter (eachBegin (.int .i64)) (eachNext (.int .i64))) := each_spec R6.each35_ok
end Go.Proofs.R6
namespace Go.Proofs.R6
open Go Go.AE
--@ law13_same_1
noncomputable def envlaw13_same_1 : Env := []
theorem envlaw13_same_1Ok : EnvOk Try.prog envlaw13_same_1 := EnvOk.nil
noncomputable def blaw13_same_1 : Code := Try.f32.body.getD .skip
noncomputable def Llaw13_same_1_n0 : Code := codeAt [1, 0] blaw13_same_1
noncomputable def annLlaw13_same_1_n0 : Ann := .none
theorem annLlaw13_same_1_n0_ok : AnnOk Try.prog 31 Llaw13_same_1_n0 annLlaw13_same_1_n0 := (annOk_none _ _ _)
abbrev Ilaw13_same_1_n0 := (Int) × (Int) × (Bool) × (Int) × (List (Int × Int)) × (Int) × (List (Int × Int))
abbrev Ylaw13_same_1_n0 := (Bool)
def Slaw13_same_1_n0 : Ilaw13_same_1_n0 → St := fun (t0, t1, o0_0, o1_0, o2_0, o3_0, o5) => { env := [(0, AV.int IntKind.i64 t0), (1, AV.int IntKind.i64 t1), (2, AV.ptr 0 0), (3, AV.ptr 1 0), (4, AV.ptr 2 0), (5, AV.ptr 3 0)], stk := [[(0, AV.ptr 0 0), (1, AV.ptr 1 0), (2, AV.ptr 2 0), (3, AV.ptr 3 0), (4, AV.ptr 4 0), (5, AV.map 5)]], H := [AE.Obj.cells [AV.bool o0_0], AE.Obj.cells [AV.int IntKind.i64 o1_0], AE.Obj.cells [AV.ro (Ty.st (Ty.pair (Ty.int IntKind.i64) (Ty.int IntKind.i64))) o2_0], AE.Obj.cells [AV.int IntKind.i64 o3_0], AE.Obj.cells [AV.map 5], Obj.mp IntKind.i64 (Ty.int IntKind.i64) o5], blk := 131072 }
def declaw13_same_1_n0 (s : St) : Option Ilaw13_same_1_n0 := match s with
  | { env := [(0, AV.int IntKind.i64 t0), (1, AV.int IntKind.i64 t1), (2, AV.ptr 0 0), (3, AV.ptr 1 0), (4, AV.ptr 2 0), (5, AV.ptr 3 0)], stk := [[(0, AV.ptr 0 0), (1, AV.ptr 1 0), (2, AV.ptr 2 0), (3, AV.ptr 3 0), (4, AV.ptr 4 0), (5, AV.map 5)]], H := [AE.Obj.cells [AV.bool o0_0], AE.Obj.cells [AV.int IntKind.i64 o1_0], AE.Obj.cells [AV.ro (Ty.st (Ty.pair (Ty.int IntKind.i64) (Ty.int IntKind.i64))) o2_0], AE.Obj.cells [AV.int IntKind.i64 o3_0], AE.Obj.cells [AV.map 5], Obj.mp IntKind.i64 (Ty.int IntKind.i64) o5], blk := 131072 } => some (t0, t1, o0_0, o1_0, o2_0, o3_0, o5)
  | _ => none
theorem declaw13_same_1_n0_ok (s : St) (x : Ilaw13_same_1_n0) (h : declaw13_same_1_n0 s = some x) : s = Slaw13_same_1_n0 x := by
  unfold declaw13_same_1_n0 at h
  split at h
  · cases h; rfl
  · cases h
def outlaw13_same_1_n0 : Ilaw13_same_1_n0 → (Ex → St → Ans) → Ylaw13_same_1_n0 → Ans := fun (t0, t1, o0_0, o1_0, o2_0, o3_0, o5) K => fun o0_0_y => K (Ex.norm) { env := [(3, AV.ptr 1 0), (5, AV.ptr 3 0)], stk := [[(0, AV.ptr 0 0), (1, AV.ptr 1 0), (2, AV.ptr 2 0), (3, AV.ptr 3 0), (4, AV.ptr 4 0), (5, AV.map 5)]], H := [AE.Obj.cells [AV.bool o0_0_y], AE.Obj.cells [AV.int IntKind.i64 o1_0], AE.Obj.cells [AV.ro (Ty.st (Ty.pair (Ty.int IntKind.i64) (Ty.int IntKind.i64))) o2_0], AE.Obj.cells [AV.int IntKind.i64 o3_0], AE.Obj.cells [AV.map 5], Obj.mp IntKind.i64 (Ty.int IntKind.i64) o5], blk := 131072 }
def nodelaw13_same_1_n0 {β : Type} : Ilaw13_same_1_n0 → (Ylaw13_same_1_n0 → Option β) → Option β := fun (t0, t1, o0_0, o1_0, o2_0, o3_0, o5) exit => (bif o0_0 then (bif decide (o1_0 < (↑(List.length o2_0) : Int)) then (bindO (nth o2_0 o1_0) fun x => (exit (x.fst == t0 && (x.snd == t1 && true)))) else (exit (false))) else (exit (false)))
def nodeDlaw13_same_1_n0 (i : Ilaw13_same_1_n0) : Option Ylaw13_same_1_n0 := nodelaw13_same_1_n0 i some
theorem nodelaw13_same_1_n0_nat (i : Ilaw13_same_1_n0) (k : Ylaw13_same_1_n0 → Ans) : nodelaw13_same_1_n0 i k = bindO (nodeDlaw13_same_1_n0 i) k := by
  obtain ⟨t0, t1, o0_0, o1_0, o2_0, o3_0, o5⟩ := i
  simp only [nodeDlaw13_same_1_n0, nodelaw13_same_1_n0, bindO_cond, bindO_assoc, bindO_none, bindO_pure, bindO_elim, bindO_unP, bindO_empty]
theorem nodelaw13_same_1_n0_ok (i : Ilaw13_same_1_n0) (K : Ex → St → Ans) : codeI Try.tab envlaw13_same_1 noHint (codeD Try.tab envlaw13_same_1 noHint 0 64) 70 31 annLlaw13_same_1_n0 Llaw13_same_1_n0 (weakP 6 (exk [3, 5] [8] []) K) (Slaw13_same_1_n0 i) = nodelaw13_same_1_n0 i (outlaw13_same_1_n0 i K) := by kernel_rfl
theorem GNlaw13_same_1_n0_ok : CSum Try.prog 31 Llaw13_same_1_n0 (sumN declaw13_same_1_n0 nodeDlaw13_same_1_n0 outlaw13_same_1_n0) := csum_node mixed tabOk envlaw13_same_1Ok 6 (exk [3, 5] [8] []) annLlaw13_same_1_n0_ok declaw13_same_1_n0_ok nodelaw13_same_1_n0_ok nodelaw13_same_1_n0_nat
noncomputable def Glaw13_same_1_n0 : (Ex → St → Ans) → St → Ans := (sumN declaw13_same_1_n0 nodeDlaw13_same_1_n0 outlaw13_same_1_n0)
theorem Glaw13_same_1_n0_ok : CSum Try.prog 31 Llaw13_same_1_n0 Glaw13_same_1_n0 := GNlaw13_same_1_n0_ok
noncomputable def annlaw13_same_1 : Ann := (.seq .none (.seq (.cut 6 [0, 1, 2, 3, 4, 5] Glaw13_same_1_n0) .none))
theorem annlaw13_same_1_ok : AnnOk Try.prog 31 blaw13_same_1 annlaw13_same_1 := ⟨(annOk_none _ _ _), ⟨Glaw13_same_1_n0_ok, (annOk_none _ _ _)⟩⟩
abbrev Alaw13_same_1 := (Int) × (Int) × (Bool) × (Int) × (List (Int × Int)) × (Int) × (List (Int × Int))
abbrev Ylaw13_same_1 := (Bool) × (Bool) × (Int)
def fnlaw13_same_1 {β : Type} : Alaw13_same_1 → (Ylaw13_same_1 → Option β) → Option β := fun (a0, a1, o0_0, o1_0, o2_0, o3_0, o5) exit => (bindO (nodeDlaw13_same_1_n0 (a0, a1, o0_0, o1_0, o2_0, o3_0, o5)) fun o0_0_2 => (exit (decide (IntKind.wrap IntKind.i64 (o1_0 + (1 : Int)) < o3_0), o0_0_2, IntKind.wrap IntKind.i64 (o1_0 + (1 : Int)))))
def fnDlaw13_same_1 (a : Alaw13_same_1) : Option Ylaw13_same_1 := fnlaw13_same_1 a some
theorem fnlaw13_same_1_nat (a : Alaw13_same_1) (k : Ylaw13_same_1 → Ans) : fnlaw13_same_1 a k = bindO (fnDlaw13_same_1 a) k := by
  obtain ⟨a0, a1, o0_0, o1_0, o2_0, o3_0, o5⟩ := a
  simp only [fnDlaw13_same_1, fnlaw13_same_1, bindO_cond, bindO_assoc, bindO_none, bindO_pure, bindO_elim, bindO_unP, bindO_empty]
def argslaw13_same_1 : Alaw13_same_1 → List AV × List AE.Obj := fun (a0, a1, o0_0, o1_0, o2_0, o3_0, o5) => ([AV.int IntKind.i64 a0, AV.int IntKind.i64 a1, AV.ptr 0 0, AV.ptr 1 0, AV.ptr 2 0, AV.ptr 3 0], [AE.Obj.cells [AV.bool o0_0], AE.Obj.cells [AV.int IntKind.i64 o1_0], AE.Obj.cells [AV.ro (Ty.st (Ty.pair (Ty.int IntKind.i64) (Ty.int IntKind.i64))) o2_0], AE.Obj.cells [AV.int IntKind.i64 o3_0], AE.Obj.cells [AV.map 5], Obj.mp IntKind.i64 (Ty.int IntKind.i64) o5])
def decAlaw13_same_1 (l : List AV) (H : List AE.Obj) : Option Alaw13_same_1 := match l, H with
  | [AV.int IntKind.i64 a0, AV.int IntKind.i64 a1, AV.ptr 0 0, AV.ptr 1 0, AV.ptr 2 0, AV.ptr 3 0], [AE.Obj.cells [AV.bool o0_0], AE.Obj.cells [AV.int IntKind.i64 o1_0], AE.Obj.cells [AV.ro (Ty.st (Ty.pair (Ty.int IntKind.i64) (Ty.int IntKind.i64))) o2_0], AE.Obj.cells [AV.int IntKind.i64 o3_0], AE.Obj.cells [AV.map 5], Obj.mp IntKind.i64 (Ty.int IntKind.i64) o5] => some (a0, a1, o0_0, o1_0, o2_0, o3_0, o5)
  | _, _ => none
theorem decAlaw13_same_1_ok (l : List AV) (H : List AE.Obj) (a : Alaw13_same_1) (h : decAlaw13_same_1 l H = some a) : (l, H) = argslaw13_same_1 a := by
  unfold decAlaw13_same_1 at h
  split at h
  · cases h; rfl
  · cases h
def outlaw13_same_1 : Alaw13_same_1 → (AV → List AE.Obj → Ans) → Ylaw13_same_1 → Ans := fun (a0, a1, o0_0, o1_0, o2_0, o3_0, o5) K => unP fun r_y => unP fun o0_0_y o1_0_y => K (AV.bool r_y) [AE.Obj.cells [AV.bool o0_0_y], AE.Obj.cells [AV.int IntKind.i64 o1_0_y], AE.Obj.cells [AV.ro (Ty.st (Ty.pair (Ty.int IntKind.i64) (Ty.int IntKind.i64))) o2_0], AE.Obj.cells [AV.int IntKind.i64 o3_0], AE.Obj.cells [AV.map 5], Obj.mp IntKind.i64 (Ty.int IntKind.i64) o5]
theorem fnlaw13_same_1_ok (a : Alaw13_same_1) (K : AV → List AE.Obj → Ans) : fnE Try.tab envlaw13_same_1 noHint 0 70 32 Try.f32.ntmps Try.f32.results.toList annlaw13_same_1 blaw13_same_1 (argslaw13_same_1 a).1 (argslaw13_same_1 a).2 K = fnlaw13_same_1 a (outlaw13_same_1 a K) := by kernel_rfl
def vFlaw13_same_1 (a : Alaw13_same_1) (K : AV → List AE.Obj → Ans) : Ans := bindO (fnDlaw13_same_1 a) fun y => outlaw13_same_1 a K y
def Flaw13_same_1 : List AV → List AE.Obj → (AV → List AE.Obj → Ans) → Ans := fun l H K => bindO (decAlaw13_same_1 l H) fun a => vFlaw13_same_1 a K
theorem Flaw13_same_1_ok : FuncOk Try.prog 32 Flaw13_same_1 := func_mkD (hint := noHint) (d := 0) (n := 70) mixed tabOk envlaw13_same_1Ok Try.func32 (bodySome (by kernel_rfl)) (by decide +kernel) annlaw13_same_1_ok decAlaw13_same_1_ok fnlaw13_same_1_ok fnlaw13_same_1_nat
end Go.Proofs.R6
namespace Go.Proofs.R6
open Go Go.AE

/-- Calls one after the other, as data. -/
def eachRun {σ : Type} (f : Int → σ → Option (Bool × σ)) : List Int → σ → Option σ
  | [], s => some s
  | k :: r, s => bindO (f k s) fun y => cond y.1 (eachRun f r y.2) (some y.2)

theorem func_weaken [BT] {P : Program} {g : Nat} {F F' : List AV → List AE.Obj → (AV → List AE.Obj → Ans) → Ans} (h : ∀ l H K res, F l H K = some res → F' l H K = some res) (hF : FuncOk P g F') : FuncOk P g F :=
  ⟨hF.1, fun C args us K res Fr hh hf hv he => hF.2 C args us K res Fr hh hf hv (h _ _ _ _ he)⟩

abbrev Things : Ty := .st (.pair (.int .i64) (.int .i64))
abbrev Aeach_same := Bool × Int × List (Int × Int) × Int × List (Int × Int)
abbrev Yeach_same := Bool × Int × List (Int × Int) × Int × List (Int × Int)
def heapSame (ok : Bool) (n : Int) (want : List (Int × Int)) (most : Int) (m : List (Int × Int)) : List AE.Obj :=
  [.cells [.bool ok], .cells [.int .i64 n], .cells [.ro Things want], .cells [.int .i64 most], .cells [.map 5], .mp .i64 (.int .i64) m]
def decAeach_same (l : List AV) (H : List AE.Obj) : Option Aeach_same := match l, H with
  | [.fn (.func 32) [] [.ptr 0 0, .ptr 1 0, .ptr 2 0, .ptr 3 0], .ptr 4 0], [.cells [.bool ok], .cells [.int .i64 n], .cells [.ro (.st (.pair (.int .i64) (.int .i64))) want], .cells [.int .i64 most], .cells [.map 5], .mp .i64 (.int .i64) m] => some (ok, n, want, most, m)
  | _, _ => none
theorem decAeach_same_ok (l : List AV) (H : List AE.Obj) (a : Aeach_same) (h : decAeach_same l H = some a) : l = [.fn (.func 32) [] [.ptr 0 0, .ptr 1 0, .ptr 2 0, .ptr 3 0], .ptr 4 0] ∧ H = heapSame a.1 a.2.1 a.2.2.1 a.2.2.2.1 a.2.2.2.2 := by
  unfold decAeach_same at h
  split at h
  · cases h; exact ⟨rfl, rfl⟩
  · cases h
def fnDeach_same (a : Aeach_same) : Option Yeach_same :=
  cond (Nat.ble a.2.2.2.2.length 1000000) (bindO (eachRun (fun k (s : Bool × Int) => fnDlaw13_same_1 (k, mget k 0 a.2.2.2.2, s.1, s.2, a.2.2.1, a.2.2.2.1, a.2.2.2.2)) (keysOf a.2.2.2.2) (a.1, a.2.1)) fun s => some (s.1, s.2, a.2.2.1, a.2.2.2.1, a.2.2.2.2)) none
def vFeach_same (a : Aeach_same) (K : AV → List AE.Obj → Ans) : Ans := bindO (fnDeach_same a) fun y => K (.tup []) (heapSame y.1 y.2.1 y.2.2.1 y.2.2.2.1 y.2.2.2.2)
def Feach_same : List AV → List AE.Obj → (AV → List AE.Obj → Ans) → Ans := fun l H K => bindO (decAeach_same l H) fun a => vFeach_same a K

theorem iterGo_same (want : List (Int × Int)) (most : Int) (m : List (Int × Int)) (H0 : List AE.Obj) (hH0 : ∀ ok n, blkSame H0 (heapSame ok n want most m) = true) (K : AV → List AE.Obj → Ans) : ∀ (L : List Int) (ok : Bool) (n : Int) (s : Bool × Int),
    eachRun (fun k (s : Bool × Int) => fnDlaw13_same_1 (k, mget k 0 m, s.1, s.2, want, most, m)) L (ok, n) = some s →
    iterGo (eachNext (.int .i64)) Flaw13_same_1 [.ptr 0 0, .ptr 1 0, .ptr 2 0, .ptr 3 0] [.ptr 4 0] H0 (L.length + 1) L (heapSame ok n want most m) K = K (.tup []) (heapSame s.1 s.2 want most m)
  | [], ok, n, s, h => by
    cases h
    rfl
  | k :: r, ok, n, s, h => by
    rw [eachRun] at h
    cases hf : fnDlaw13_same_1 (k, mget k 0 m, ok, n, want, most, m) with
    | none => rw [hf] at h; cases h
    | some y =>
      obtain ⟨b, ok', n'⟩ := y
      rw [hf, bindO_pure] at h
      have step : iterGo (eachNext (.int .i64)) Flaw13_same_1 [.ptr 0 0, .ptr 1 0, .ptr 2 0, .ptr 3 0] [.ptr 4 0] H0 ((k :: r).length + 1) (k :: r) (heapSame ok n want most m) K =
          cond b (cond (blkSame H0 (heapSame ok' n' want most m)) (iterGo (eachNext (.int .i64)) Flaw13_same_1 [.ptr 0 0, .ptr 1 0, .ptr 2 0, .ptr 3 0] [.ptr 4 0] H0 (r.length + 1) r (heapSame ok' n' want most m) K) none) (K (.tup []) (heapSame ok' n' want most m)) := by
        have e : iterGo (eachNext (.int .i64)) Flaw13_same_1 [.ptr 0 0, .ptr 1 0, .ptr 2 0, .ptr 3 0] [.ptr 4 0] H0 ((k :: r).length + 1) (k :: r) (heapSame ok n want most m) K =
          bindO (fnDlaw13_same_1 (k, mget k 0 m, ok, n, want, most, m)) fun y => outlaw13_same_1 (k, mget k 0 m, ok, n, want, most, m) (fun rr H' => match rr with
            | .bool b => cond b (cond (blkSame H0 H') (iterGo (eachNext (.int .i64)) Flaw13_same_1 [.ptr 0 0, .ptr 1 0, .ptr 2 0, .ptr 3 0] [.ptr 4 0] H0 (r.length + 1) r H' K) none) (K (.tup []) H')
            | _ => none) y := by kernel_rfl
        rw [e, hf]
        rfl
      rw [step]
      cases b with
      | true => rw [cond_true, hH0, cond_true]; exact iterGo_same want most m H0 hH0 K r ok' n' s h
      | false => cases h; rfl

theorem Feach_same_ok : FuncOk Try.prog 35 Feach_same := by
  refine func_weaken ?_ (func_iterCall iter35_spec Flaw13_same_1_ok)
  intro l H K res h
  unfold Feach_same at h
  replace h := bindO_some' h
  obtain ⟨a, ha, h⟩ := h
  obtain ⟨rfl, rfl⟩ := decAeach_same_ok l H a ha
  obtain ⟨ok, n, want, most, m⟩ := a
  unfold vFeach_same fnDeach_same at h
  dsimp only at h
  cases hb : Nat.ble m.length 1000000 with
  | false => rw [hb] at h; cases h
  | true =>
    rw [hb, cond_true] at h
    cases hs : eachRun (fun k (s : Bool × Int) => fnDlaw13_same_1 (k, mget k 0 m, s.1, s.2, want, most, m)) (keysOf m) (ok, n) with
    | none => rw [hs] at h; cases h
    | some s =>
      rw [hs] at h
      have e : iterCall 32 (eachBegin (.int .i64)) (eachNext (.int .i64)) Flaw13_same_1 [.fn (.func 32) [] [.ptr 0 0, .ptr 1 0, .ptr 2 0, .ptr 3 0], .ptr 4 0] (heapSame ok n want most m) K =
          cond (Nat.ble m.length 1000000) (iterGo (eachNext (.int .i64)) Flaw13_same_1 [.ptr 0 0, .ptr 1 0, .ptr 2 0, .ptr 3 0] [.ptr 4 0] (heapSame ok n want most m) ((keysOf m).length + 1) (keysOf m) (heapSame ok n want most m) K) none := by kernel_rfl
      refine e.trans ?_
      rw [hb, cond_true, iterGo_same want most m _ (fun _ _ => rfl) K _ ok n s hs]
      exact h

abbrev Aeach_same_nil := Bool × Int × Int × List (Int × Int)
abbrev Yeach_same_nil := Bool × Int × Int × List (Int × Int)
def heapSameNil (ok : Bool) (n : Int) (most : Int) (want : List (Int × Int)) : List AE.Obj :=
  [.cells [.bool ok], .cells [.int .i64 n], .cells [.own 5], .cells [.int .i64 most], .cells [.nilm], .arr Things want]
def decAeach_same_nil (l : List AV) (H : List AE.Obj) : Option Aeach_same_nil := match l, H with
  | [.fn (.func 32) [] [.ptr 0 0, .ptr 1 0, .ptr 2 0, .ptr 3 0], .ptr 4 0], [.cells [.bool ok], .cells [.int .i64 n], .cells [.own 5], .cells [.int .i64 most], .cells [.nilm], .arr (.st (.pair (.int .i64) (.int .i64))) want] => some (ok, n, most, want)
  | _, _ => none
theorem decAeach_same_nil_ok (l : List AV) (H : List AE.Obj) (a : Aeach_same_nil) (h : decAeach_same_nil l H = some a) : l = [.fn (.func 32) [] [.ptr 0 0, .ptr 1 0, .ptr 2 0, .ptr 3 0], .ptr 4 0] ∧ H = heapSameNil a.1 a.2.1 a.2.2.1 a.2.2.2 := by
  unfold decAeach_same_nil at h
  split at h
  · cases h; exact ⟨rfl, rfl⟩
  · cases h
def fnDeach_same_nil (a : Aeach_same_nil) : Option Yeach_same_nil := some a
def vFeach_same_nil (a : Aeach_same_nil) (K : AV → List AE.Obj → Ans) : Ans := bindO (fnDeach_same_nil a) fun y => K (.tup []) (heapSameNil y.1 y.2.1 y.2.2.1 y.2.2.2)
def Feach_same_nil : List AV → List AE.Obj → (AV → List AE.Obj → Ans) → Ans := fun l H K => bindO (decAeach_same_nil l H) fun a => vFeach_same_nil a K
theorem keysOf_nil : keysOf (nilL (Int × Int)) = [] := by simp [keysOf]
theorem Feach_same_nil_ok : FuncOk Try.prog 35 Feach_same_nil := by
  refine func_weaken ?_ (func_iterCall iter35_spec Flaw13_same_1_ok)
  intro l H K res h
  unfold Feach_same_nil at h
  replace h := bindO_some' h
  obtain ⟨a, ha, h⟩ := h
  obtain ⟨rfl, rfl⟩ := decAeach_same_nil_ok l H a ha
  obtain ⟨ok, n, most, want⟩ := a
  have e : iterCall 32 (eachBegin (.int .i64)) (eachNext (.int .i64)) Flaw13_same_1 [.fn (.func 32) [] [.ptr 0 0, .ptr 1 0, .ptr 2 0, .ptr 3 0], .ptr 4 0] (heapSameNil ok n most want) K =
      iterGo (eachNext (.int .i64)) Flaw13_same_1 [.ptr 0 0, .ptr 1 0, .ptr 2 0, .ptr 3 0] [.ptr 4 0] (heapSameNil ok n most want) ((keysOf (nilL (Int × Int))).length + 1) (keysOf (nilL (Int × Int))) (heapSameNil ok n most want) K := by kernel_rfl
  refine e.trans ?_
  rw [keysOf_nil]
  exact h
end Go.Proofs.R6
namespace Go.Proofs.R6
open Go Go.AE
--@ shadow_New_int
noncomputable def envshadow_New_int : Env := []
theorem envshadow_New_intOk : EnvOk Try.prog envshadow_New_int := EnvOk.nil
noncomputable def bshadow_New_int : Code := Try.f13.body.getD .skip
noncomputable def annshadow_New_int : Ann := .none
theorem annshadow_New_int_ok : AnnOk Try.prog 5 bshadow_New_int annshadow_New_int := (annOk_none _ _ _)
abbrev Ashadow_New_int := Unit
abbrev Yshadow_New_int := Unit
def fnshadow_New_int {β : Type} : Ashadow_New_int → (Yshadow_New_int → Option β) → Option β := fun _ exit => (exit ())
def fnDshadow_New_int (a : Ashadow_New_int) : Option Yshadow_New_int := fnshadow_New_int a some
theorem fnshadow_New_int_nat (a : Ashadow_New_int) (k : Yshadow_New_int → Ans) : fnshadow_New_int a k = bindO (fnDshadow_New_int a) k := by
  obtain z := a
  simp only [fnDshadow_New_int, fnshadow_New_int, bindO_cond, bindO_assoc, bindO_none, bindO_pure, bindO_elim, bindO_unP, bindO_empty]
def argsshadow_New_int : Ashadow_New_int → List AV × List AE.Obj := fun _ => ([], [])
def decAshadow_New_int (l : List AV) (H : List AE.Obj) : Option Ashadow_New_int := match l, H with
  | [], [] => some ()
  | _, _ => none
theorem decAshadow_New_int_ok (l : List AV) (H : List AE.Obj) (a : Ashadow_New_int) (h : decAshadow_New_int l H = some a) : (l, H) = argsshadow_New_int a := by
  unfold decAshadow_New_int at h
  split at h
  · cases h; rfl
  · cases h
def outshadow_New_int : Ashadow_New_int → (AV → List AE.Obj → Ans) → Yshadow_New_int → Ans := fun _ K => fun _ => K (AV.ptr 0 0) [AE.Obj.cells [AV.map 1, AV.map 2], Obj.mp IntKind.i64 (Ty.int IntKind.i64) ([]), Obj.mp IntKind.i64 (Ty.int IntKind.i64) ([])]
theorem fnshadow_New_int_ok (a : Ashadow_New_int) (K : AV → List AE.Obj → Ans) : fnE Try.tab envshadow_New_int noHint 0 70 13 Try.f13.ntmps Try.f13.results.toList annshadow_New_int bshadow_New_int (argsshadow_New_int a).1 (argsshadow_New_int a).2 K = fnshadow_New_int a (outshadow_New_int a K) := by kernel_rfl
def vFshadow_New_int (a : Ashadow_New_int) (K : AV → List AE.Obj → Ans) : Ans := bindO (fnDshadow_New_int a) fun y => outshadow_New_int a K y
def Fshadow_New_int : List AV → List AE.Obj → (AV → List AE.Obj → Ans) → Ans := fun l H K => bindO (decAshadow_New_int l H) fun a => vFshadow_New_int a K
theorem Fshadow_New_int_ok : FuncOk Try.prog 13 Fshadow_New_int := func_mkD (hint := noHint) (d := 0) (n := 70) mixed tabOk envshadow_New_intOk Try.func13 (bodySome (by kernel_rfl)) (by decide +kernel) annshadow_New_int_ok decAshadow_New_int_ok fnshadow_New_int_ok fnshadow_New_int_nat
--@ shadow_Shadow_int_made
noncomputable def envshadow_Shadow_int_made : Env := []
theorem envshadow_Shadow_int_madeOk : EnvOk Try.prog envshadow_Shadow_int_made := EnvOk.nil
noncomputable def bshadow_Shadow_int_made : Code := Try.f28.body.getD .skip
noncomputable def Lshadow_Shadow_int_made_n0 : Code := codeAt [0, 1] bshadow_Shadow_int_made
noncomputable def annLshadow_Shadow_int_made_n0 : Ann := .none
theorem annLshadow_Shadow_int_made_n0_ok : AnnOk Try.prog 20 Lshadow_Shadow_int_made_n0 annLshadow_Shadow_int_made_n0 := (annOk_none _ _ _)
abbrev Ishadow_Shadow_int_made_n0 := (List (Int × Int)) × (List (Int × Int))
abbrev Yshadow_Shadow_int_made_n0 := Unit
def Sshadow_Shadow_int_made_n0 : Ishadow_Shadow_int_made_n0 → St := fun (o1, o2) => { env := [(0, AV.ptr 0 0), (6, AV.bool (false))], stk := [[(0, AV.ptr 0 0), (1, AV.map 1), (2, AV.map 2)]], H := [AE.Obj.cells [AV.map 1, AV.map 2], Obj.mp IntKind.i64 (Ty.int IntKind.i64) o1, Obj.mp IntKind.i64 (Ty.int IntKind.i64) o2], blk := 114688 }
def decshadow_Shadow_int_made_n0 (s : St) : Option Ishadow_Shadow_int_made_n0 := match s with
  | { env := [(0, AV.ptr 0 0), (6, AV.bool r0)], stk := [[(0, AV.ptr 0 0), (1, AV.map 1), (2, AV.map 2)]], H := [AE.Obj.cells [AV.map 1, AV.map 2], Obj.mp IntKind.i64 (Ty.int IntKind.i64) o1, Obj.mp IntKind.i64 (Ty.int IntKind.i64) o2], blk := 114688 } => cond (decide (r0 = false)) (some (o1, o2)) none
  | _ => none
theorem decshadow_Shadow_int_made_n0_ok (s : St) (x : Ishadow_Shadow_int_made_n0) (h : decshadow_Shadow_int_made_n0 s = some x) : s = Sshadow_Shadow_int_made_n0 x := by
  unfold decshadow_Shadow_int_made_n0 at h
  split at h
  · replace h := cond_noneO h; obtain ⟨hg, h⟩ := h; simp only [Bool.and_eq_true, decide_eq_true_eq] at hg; simp only [hg]; cases h; rfl
  · cases h
def outshadow_Shadow_int_made_n0 : Ishadow_Shadow_int_made_n0 → (Ex → St → Ans) → Yshadow_Shadow_int_made_n0 → Ans := fun (o1, o2) K => fun _ => K (Ex.norm) { env := [(0, AV.ptr 0 0)], stk := [[(0, AV.ptr 0 0), (1, AV.map 1), (2, AV.map 2)]], H := [AE.Obj.cells [AV.map 1, AV.map 2], Obj.mp IntKind.i64 (Ty.int IntKind.i64) o1, Obj.mp IntKind.i64 (Ty.int IntKind.i64) o2], blk := 114688 }
def nodeshadow_Shadow_int_made_n0 {β : Type} : Ishadow_Shadow_int_made_n0 → (Yshadow_Shadow_int_made_n0 → Option β) → Option β := fun (o1, o2) exit => (exit ())
def nodeDshadow_Shadow_int_made_n0 (i : Ishadow_Shadow_int_made_n0) : Option Yshadow_Shadow_int_made_n0 := nodeshadow_Shadow_int_made_n0 i some
theorem nodeshadow_Shadow_int_made_n0_nat (i : Ishadow_Shadow_int_made_n0) (k : Yshadow_Shadow_int_made_n0 → Ans) : nodeshadow_Shadow_int_made_n0 i k = bindO (nodeDshadow_Shadow_int_made_n0 i) k := by
  obtain ⟨o1, o2⟩ := i
  simp only [nodeDshadow_Shadow_int_made_n0, nodeshadow_Shadow_int_made_n0, bindO_cond, bindO_assoc, bindO_none, bindO_pure, bindO_elim, bindO_unP, bindO_empty]
theorem nodeshadow_Shadow_int_made_n0_ok (i : Ishadow_Shadow_int_made_n0) (K : Ex → St → Ans) : codeI Try.tab envshadow_Shadow_int_made noHint (codeD Try.tab envshadow_Shadow_int_made noHint 0 64) 70 20 annLshadow_Shadow_int_made_n0 Lshadow_Shadow_int_made_n0 (weakP 3 (exk [0] [] []) K) (Sshadow_Shadow_int_made_n0 i) = nodeshadow_Shadow_int_made_n0 i (outshadow_Shadow_int_made_n0 i K) := by kernel_rfl
theorem GNshadow_Shadow_int_made_n0_ok : CSum Try.prog 20 Lshadow_Shadow_int_made_n0 (sumN decshadow_Shadow_int_made_n0 nodeDshadow_Shadow_int_made_n0 outshadow_Shadow_int_made_n0) := csum_node mixed tabOk envshadow_Shadow_int_madeOk 3 (exk [0] [] []) annLshadow_Shadow_int_made_n0_ok decshadow_Shadow_int_made_n0_ok nodeshadow_Shadow_int_made_n0_ok nodeshadow_Shadow_int_made_n0_nat
noncomputable def Gshadow_Shadow_int_made_n0 : (Ex → St → Ans) → St → Ans := (sumN decshadow_Shadow_int_made_n0 nodeDshadow_Shadow_int_made_n0 outshadow_Shadow_int_made_n0)
theorem Gshadow_Shadow_int_made_n0_ok : CSum Try.prog 20 Lshadow_Shadow_int_made_n0 Gshadow_Shadow_int_made_n0 := GNshadow_Shadow_int_made_n0_ok
noncomputable def annshadow_Shadow_int_made : Ann := (.seq (.seq .none (.cut 3 [0, 6] Gshadow_Shadow_int_made_n0)) .none)
theorem annshadow_Shadow_int_made_ok : AnnOk Try.prog 20 bshadow_Shadow_int_made annshadow_Shadow_int_made := ⟨⟨(annOk_none _ _ _), Gshadow_Shadow_int_made_n0_ok⟩, (annOk_none _ _ _)⟩
abbrev Ashadow_Shadow_int_made := (List (Int × Int)) × (List (Int × Int))
abbrev Yshadow_Shadow_int_made := Unit
def fnshadow_Shadow_int_made {β : Type} : Ashadow_Shadow_int_made → (Yshadow_Shadow_int_made → Option β) → Option β := fun (o1, o2) exit => (bindO (nodeDshadow_Shadow_int_made_n0 (o1, o2)) fun _ => (exit ()))
def fnDshadow_Shadow_int_made (a : Ashadow_Shadow_int_made) : Option Yshadow_Shadow_int_made := fnshadow_Shadow_int_made a some
theorem fnshadow_Shadow_int_made_nat (a : Ashadow_Shadow_int_made) (k : Yshadow_Shadow_int_made → Ans) : fnshadow_Shadow_int_made a k = bindO (fnDshadow_Shadow_int_made a) k := by
  obtain ⟨o1, o2⟩ := a
  simp only [fnDshadow_Shadow_int_made, fnshadow_Shadow_int_made, bindO_cond, bindO_assoc, bindO_none, bindO_pure, bindO_elim, bindO_unP, bindO_empty]
def argsshadow_Shadow_int_made : Ashadow_Shadow_int_made → List AV × List AE.Obj := fun (o1, o2) => ([AV.ptr 0 0], [AE.Obj.cells [AV.map 1, AV.map 2], Obj.mp IntKind.i64 (Ty.int IntKind.i64) o1, Obj.mp IntKind.i64 (Ty.int IntKind.i64) o2])
def decAshadow_Shadow_int_made (l : List AV) (H : List AE.Obj) : Option Ashadow_Shadow_int_made := match l, H with
  | [AV.ptr 0 0], [AE.Obj.cells [AV.map 1, AV.map 2], Obj.mp IntKind.i64 (Ty.int IntKind.i64) o1, Obj.mp IntKind.i64 (Ty.int IntKind.i64) o2] => some (o1, o2)
  | _, _ => none
theorem decAshadow_Shadow_int_made_ok (l : List AV) (H : List AE.Obj) (a : Ashadow_Shadow_int_made) (h : decAshadow_Shadow_int_made l H = some a) : (l, H) = argsshadow_Shadow_int_made a := by
  unfold decAshadow_Shadow_int_made at h
  split at h
  · cases h; rfl
  · cases h
def outshadow_Shadow_int_made : Ashadow_Shadow_int_made → (AV → List AE.Obj → Ans) → Yshadow_Shadow_int_made → Ans := fun (o1, o2) K => fun _ => K (AV.tup []) [AE.Obj.cells [AV.map 1, AV.map 2], Obj.mp IntKind.i64 (Ty.int IntKind.i64) o1, Obj.mp IntKind.i64 (Ty.int IntKind.i64) o2]
theorem fnshadow_Shadow_int_made_ok (a : Ashadow_Shadow_int_made) (K : AV → List AE.Obj → Ans) : fnE Try.tab envshadow_Shadow_int_made noHint 0 70 28 Try.f28.ntmps Try.f28.results.toList annshadow_Shadow_int_made bshadow_Shadow_int_made (argsshadow_Shadow_int_made a).1 (argsshadow_Shadow_int_made a).2 K = fnshadow_Shadow_int_made a (outshadow_Shadow_int_made a K) := by kernel_rfl
def vFshadow_Shadow_int_made (a : Ashadow_Shadow_int_made) (K : AV → List AE.Obj → Ans) : Ans := bindO (fnDshadow_Shadow_int_made a) fun y => outshadow_Shadow_int_made a K y
def Fshadow_Shadow_int_made : List AV → List AE.Obj → (AV → List AE.Obj → Ans) → Ans := fun l H K => bindO (decAshadow_Shadow_int_made l H) fun a => vFshadow_Shadow_int_made a K
theorem Fshadow_Shadow_int_made_ok : FuncOk Try.prog 28 Fshadow_Shadow_int_made := func_mkD (hint := noHint) (d := 0) (n := 70) mixed tabOk envshadow_Shadow_int_madeOk Try.func28 (bodySome (by kernel_rfl)) (by decide +kernel) annshadow_Shadow_int_made_ok decAshadow_Shadow_int_made_ok fnshadow_Shadow_int_made_ok fnshadow_Shadow_int_made_nat
--@ shadow_Shadow_int_Put
noncomputable def envshadow_Shadow_int_Put : Env := [(28, .func Fshadow_Shadow_int_made)]
theorem envshadow_Shadow_int_PutOk : EnvOk Try.prog envshadow_Shadow_int_Put := EnvOk.cons Fshadow_Shadow_int_made_ok (EnvOk.nil)
noncomputable def bshadow_Shadow_int_Put : Code := Try.f14.body.getD .skip
noncomputable def annshadow_Shadow_int_Put : Ann := .none
theorem annshadow_Shadow_int_Put_ok : AnnOk Try.prog 16 bshadow_Shadow_int_Put annshadow_Shadow_int_Put := (annOk_none _ _ _)
abbrev Ashadow_Shadow_int_Put := (Int) × (Int) × (List (Int × Int)) × (List (Int × Int))
abbrev Yshadow_Shadow_int_Put := (List (Int × Int))
def fnshadow_Shadow_int_Put {β : Type} : Ashadow_Shadow_int_Put → (Yshadow_Shadow_int_Put → Option β) → Option β := fun (a1, a2, o1, o2) exit => (bindO (fnDshadow_Shadow_int_made (o1, o2)) fun _ => (exit (mput a1 a2 o2)))
def fnDshadow_Shadow_int_Put (a : Ashadow_Shadow_int_Put) : Option Yshadow_Shadow_int_Put := fnshadow_Shadow_int_Put a some
theorem fnshadow_Shadow_int_Put_nat (a : Ashadow_Shadow_int_Put) (k : Yshadow_Shadow_int_Put → Ans) : fnshadow_Shadow_int_Put a k = bindO (fnDshadow_Shadow_int_Put a) k := by
  obtain ⟨a1, a2, o1, o2⟩ := a
  simp only [fnDshadow_Shadow_int_Put, fnshadow_Shadow_int_Put, bindO_cond, bindO_assoc, bindO_none, bindO_pure, bindO_elim, bindO_unP, bindO_empty]
def argsshadow_Shadow_int_Put : Ashadow_Shadow_int_Put → List AV × List AE.Obj := fun (a1, a2, o1, o2) => ([AV.ptr 0 0, AV.int IntKind.i64 a1, AV.int IntKind.i64 a2], [AE.Obj.cells [AV.map 1, AV.map 2], Obj.mp IntKind.i64 (Ty.int IntKind.i64) o1, Obj.mp IntKind.i64 (Ty.int IntKind.i64) o2])
def decAshadow_Shadow_int_Put (l : List AV) (H : List AE.Obj) : Option Ashadow_Shadow_int_Put := match l, H with
  | [AV.ptr 0 0, AV.int IntKind.i64 a1, AV.int IntKind.i64 a2], [AE.Obj.cells [AV.map 1, AV.map 2], Obj.mp IntKind.i64 (Ty.int IntKind.i64) o1, Obj.mp IntKind.i64 (Ty.int IntKind.i64) o2] => some (a1, a2, o1, o2)
  | _, _ => none
theorem decAshadow_Shadow_int_Put_ok (l : List AV) (H : List AE.Obj) (a : Ashadow_Shadow_int_Put) (h : decAshadow_Shadow_int_Put l H = some a) : (l, H) = argsshadow_Shadow_int_Put a := by
  unfold decAshadow_Shadow_int_Put at h
  split at h
  · cases h; rfl
  · cases h
def outshadow_Shadow_int_Put : Ashadow_Shadow_int_Put → (AV → List AE.Obj → Ans) → Yshadow_Shadow_int_Put → Ans := fun (a1, a2, o1, o2) K => fun o2_y => K (AV.tup []) [AE.Obj.cells [AV.map 1, AV.map 2], Obj.mp IntKind.i64 (Ty.int IntKind.i64) o1, Obj.mp IntKind.i64 (Ty.int IntKind.i64) o2_y]
theorem fnshadow_Shadow_int_Put_ok (a : Ashadow_Shadow_int_Put) (K : AV → List AE.Obj → Ans) : fnE Try.tab envshadow_Shadow_int_Put noHint 0 70 14 Try.f14.ntmps Try.f14.results.toList annshadow_Shadow_int_Put bshadow_Shadow_int_Put (argsshadow_Shadow_int_Put a).1 (argsshadow_Shadow_int_Put a).2 K = fnshadow_Shadow_int_Put a (outshadow_Shadow_int_Put a K) := by kernel_rfl
def vFshadow_Shadow_int_Put (a : Ashadow_Shadow_int_Put) (K : AV → List AE.Obj → Ans) : Ans := bindO (fnDshadow_Shadow_int_Put a) fun y => outshadow_Shadow_int_Put a K y
def Fshadow_Shadow_int_Put : List AV → List AE.Obj → (AV → List AE.Obj → Ans) → Ans := fun l H K => bindO (decAshadow_Shadow_int_Put l H) fun a => vFshadow_Shadow_int_Put a K
theorem Fshadow_Shadow_int_Put_ok : FuncOk Try.prog 14 Fshadow_Shadow_int_Put := func_mkD (hint := noHint) (d := 0) (n := 70) mixed tabOk envshadow_Shadow_int_PutOk Try.func14 (bodySome (by kernel_rfl)) (by decide +kernel) annshadow_Shadow_int_Put_ok decAshadow_Shadow_int_Put_ok fnshadow_Shadow_int_Put_ok fnshadow_Shadow_int_Put_nat
--@ shadow_layer_int_each
noncomputable def envshadow_layer_int_each : Env := []
theorem envshadow_layer_int_eachOk : EnvOk Try.prog envshadow_layer_int_each := EnvOk.nil
noncomputable def bshadow_layer_int_each : Code := Try.f30.body.getD .skip
noncomputable def annshadow_layer_int_each : Ann := .none
theorem annshadow_layer_int_each_ok : AnnOk Try.prog 4 bshadow_layer_int_each annshadow_layer_int_each := (annOk_none _ _ _)
abbrev Ashadow_layer_int_each := (List (Int × Int))
abbrev Yshadow_layer_int_each := Unit
def fnshadow_layer_int_each {β : Type} : Ashadow_layer_int_each → (Yshadow_layer_int_each → Option β) → Option β := fun o0 exit => (exit ())
def fnDshadow_layer_int_each (a : Ashadow_layer_int_each) : Option Yshadow_layer_int_each := fnshadow_layer_int_each a some
theorem fnshadow_layer_int_each_nat (a : Ashadow_layer_int_each) (k : Yshadow_layer_int_each → Ans) : fnshadow_layer_int_each a k = bindO (fnDshadow_layer_int_each a) k := by
  obtain z := a
  simp only [fnDshadow_layer_int_each, fnshadow_layer_int_each, bindO_cond, bindO_assoc, bindO_none, bindO_pure, bindO_elim, bindO_unP, bindO_empty]
def argsshadow_layer_int_each : Ashadow_layer_int_each → List AV × List AE.Obj := fun o0 => ([AV.map 0], [Obj.mp IntKind.i64 (Ty.int IntKind.i64) o0])
def decAshadow_layer_int_each (l : List AV) (H : List AE.Obj) : Option Ashadow_layer_int_each := match l, H with
  | [AV.map 0], [Obj.mp IntKind.i64 (Ty.int IntKind.i64) o0] => some (o0)
  | _, _ => none
theorem decAshadow_layer_int_each_ok (l : List AV) (H : List AE.Obj) (a : Ashadow_layer_int_each) (h : decAshadow_layer_int_each l H = some a) : (l, H) = argsshadow_layer_int_each a := by
  unfold decAshadow_layer_int_each at h
  split at h
  · cases h; rfl
  · cases h
def outshadow_layer_int_each : Ashadow_layer_int_each → (AV → List AE.Obj → Ans) → Yshadow_layer_int_each → Ans := fun o0 K => fun _ => K (AV.fn (Fn.func 35) [] [AV.ptr 1 0]) [Obj.mp IntKind.i64 (Ty.int IntKind.i64) o0, AE.Obj.cells [AV.map 0]]
theorem fnshadow_layer_int_each_ok (a : Ashadow_layer_int_each) (K : AV → List AE.Obj → Ans) : fnE Try.tab envshadow_layer_int_each noHint 0 70 30 Try.f30.ntmps Try.f30.results.toList annshadow_layer_int_each bshadow_layer_int_each (argsshadow_layer_int_each a).1 (argsshadow_layer_int_each a).2 K = fnshadow_layer_int_each a (outshadow_layer_int_each a K) := by kernel_rfl
def vFshadow_layer_int_each (a : Ashadow_layer_int_each) (K : AV → List AE.Obj → Ans) : Ans := bindO (fnDshadow_layer_int_each a) fun y => outshadow_layer_int_each a K y
def Fshadow_layer_int_each : List AV → List AE.Obj → (AV → List AE.Obj → Ans) → Ans := fun l H K => bindO (decAshadow_layer_int_each l H) fun a => vFshadow_layer_int_each a K
theorem Fshadow_layer_int_each_ok : FuncOk Try.prog 30 Fshadow_layer_int_each := func_mkD (hint := noHint) (d := 0) (n := 70) mixed tabOk envshadow_layer_int_eachOk Try.func30 (bodySome (by kernel_rfl)) (by decide +kernel) annshadow_layer_int_each_ok decAshadow_layer_int_each_ok fnshadow_layer_int_each_ok fnshadow_layer_int_each_nat
--@ shadow_Shadow_int_Back
noncomputable def envshadow_Shadow_int_Back : Env := []
theorem envshadow_Shadow_int_BackOk : EnvOk Try.prog envshadow_Shadow_int_Back := EnvOk.nil
noncomputable def bshadow_Shadow_int_Back : Code := Try.f18.body.getD .skip
noncomputable def annshadow_Shadow_int_Back : Ann := .none
theorem annshadow_Shadow_int_Back_ok : AnnOk Try.prog 8 bshadow_Shadow_int_Back annshadow_Shadow_int_Back := (annOk_none _ _ _)
abbrev Ashadow_Shadow_int_Back := (List (Int × Int)) × (List (Int × Int))
abbrev Yshadow_Shadow_int_Back := Unit
def fnshadow_Shadow_int_Back {β : Type} : Ashadow_Shadow_int_Back → (Yshadow_Shadow_int_Back → Option β) → Option β := fun (o1, o2) exit => (exit ())
def fnDshadow_Shadow_int_Back (a : Ashadow_Shadow_int_Back) : Option Yshadow_Shadow_int_Back := fnshadow_Shadow_int_Back a some
theorem fnshadow_Shadow_int_Back_nat (a : Ashadow_Shadow_int_Back) (k : Yshadow_Shadow_int_Back → Ans) : fnshadow_Shadow_int_Back a k = bindO (fnDshadow_Shadow_int_Back a) k := by
  obtain ⟨o1, o2⟩ := a
  simp only [fnDshadow_Shadow_int_Back, fnshadow_Shadow_int_Back, bindO_cond, bindO_assoc, bindO_none, bindO_pure, bindO_elim, bindO_unP, bindO_empty]
def argsshadow_Shadow_int_Back : Ashadow_Shadow_int_Back → List AV × List AE.Obj := fun (o1, o2) => ([AV.ptr 0 0], [AE.Obj.cells [AV.map 1, AV.map 2], Obj.mp IntKind.i64 (Ty.int IntKind.i64) o1, Obj.mp IntKind.i64 (Ty.int IntKind.i64) o2])
def decAshadow_Shadow_int_Back (l : List AV) (H : List AE.Obj) : Option Ashadow_Shadow_int_Back := match l, H with
  | [AV.ptr 0 0], [AE.Obj.cells [AV.map 1, AV.map 2], Obj.mp IntKind.i64 (Ty.int IntKind.i64) o1, Obj.mp IntKind.i64 (Ty.int IntKind.i64) o2] => some (o1, o2)
  | _, _ => none
theorem decAshadow_Shadow_int_Back_ok (l : List AV) (H : List AE.Obj) (a : Ashadow_Shadow_int_Back) (h : decAshadow_Shadow_int_Back l H = some a) : (l, H) = argsshadow_Shadow_int_Back a := by
  unfold decAshadow_Shadow_int_Back at h
  split at h
  · cases h; rfl
  · cases h
def outshadow_Shadow_int_Back : Ashadow_Shadow_int_Back → (AV → List AE.Obj → Ans) → Yshadow_Shadow_int_Back → Ans := fun (o1, o2) K => fun _ => K (AV.tup []) [AE.Obj.cells [AV.map 1, AV.map 3], Obj.mp IntKind.i64 (Ty.int IntKind.i64) o1, Obj.mp IntKind.i64 (Ty.int IntKind.i64) o2, Obj.mp IntKind.i64 (Ty.int IntKind.i64) ([])]
theorem fnshadow_Shadow_int_Back_ok (a : Ashadow_Shadow_int_Back) (K : AV → List AE.Obj → Ans) : fnE Try.tab envshadow_Shadow_int_Back noHint 0 70 18 Try.f18.ntmps Try.f18.results.toList annshadow_Shadow_int_Back bshadow_Shadow_int_Back (argsshadow_Shadow_int_Back a).1 (argsshadow_Shadow_int_Back a).2 K = fnshadow_Shadow_int_Back a (outshadow_Shadow_int_Back a K) := by kernel_rfl
def vFshadow_Shadow_int_Back (a : Ashadow_Shadow_int_Back) (K : AV → List AE.Obj → Ans) : Ans := bindO (fnDshadow_Shadow_int_Back a) fun y => outshadow_Shadow_int_Back a K y
def Fshadow_Shadow_int_Back : List AV → List AE.Obj → (AV → List AE.Obj → Ans) → Ans := fun l H K => bindO (decAshadow_Shadow_int_Back l H) fun a => vFshadow_Shadow_int_Back a K
theorem Fshadow_Shadow_int_Back_ok : FuncOk Try.prog 18 Fshadow_Shadow_int_Back := func_mkD (hint := noHint) (d := 0) (n := 70) mixed tabOk envshadow_Shadow_int_BackOk Try.func18 (bodySome (by kernel_rfl)) (by decide +kernel) annshadow_Shadow_int_Back_ok decAshadow_Shadow_int_Back_ok fnshadow_Shadow_int_Back_ok fnshadow_Shadow_int_Back_nat
--@ shadow_Shadow_int_Keep
noncomputable def envshadow_Shadow_int_Keep : Env := [(28, .func Fshadow_Shadow_int_made), (30, .func Fshadow_layer_int_each), (18, .func Fshadow_Shadow_int_Back), (100033, (.iter (eachBegin .str) (eachNext .str))), (100035, (.iter (eachBegin (.int .i64)) (eachNext (.int .i64))))]
theorem envshadow_Shadow_int_KeepOk : EnvOk Try.prog envshadow_Shadow_int_Keep := EnvOk.cons Fshadow_Shadow_int_made_ok (EnvOk.cons Fshadow_layer_int_each_ok (EnvOk.cons Fshadow_Shadow_int_Back_ok (EnvOk.cons iter33_spec (EnvOk.cons iter35_spec (EnvOk.nil)))))
noncomputable def bshadow_Shadow_int_Keep : Code := Try.f16.body.getD .skip
noncomputable def Lshadow_Shadow_int_Keep_n0 : Code := codeAt [1, 1, 1, 0, 1, 0] bshadow_Shadow_int_Keep
theorem Lshadow_Shadow_int_Keep_n0_eq : Lshadow_Shadow_int_Keep_n0 = .rangeFunc (rfG Lshadow_Shadow_int_Keep_n0) (rfPs Lshadow_Shadow_int_Keep_n0) (rfAs Lshadow_Shadow_int_Keep_n0) (rfC Lshadow_Shadow_int_Keep_n0) := by kernel_rfl
noncomputable def annLshadow_Shadow_int_Keep_n0 : Ann := .at 3 [1, 12, 23] (.loop .none)
theorem annLshadow_Shadow_int_Keep_n0_ok : cutP Try.prog 23 (rfC Lshadow_Shadow_int_Keep_n0) annLshadow_Shadow_int_Keep_n0.fst (AnnOk Try.prog 23 (rfC Lshadow_Shadow_int_Keep_n0) annLshadow_Shadow_int_Keep_n0.fst) := (annOk_none _ _ _)
abbrev Ishadow_Shadow_int_Keep_n0 := (List (Int × Int))
abbrev Yshadow_Shadow_int_Keep_n0 := (List (Int × Int))
abbrev Vshadow_Shadow_int_Keep_n0 := (List Int) × (List (Int × Int))
def Sshadow_Shadow_int_Keep_n0 : Ishadow_Shadow_int_Keep_n0 → Vshadow_Shadow_int_Keep_n0 → St := fun o2 (t23, o1) => { env := [(1, AV.ptr 3 0), (12, AV.fn (Fn.func 35) [] [AV.ptr 4 0]), (23, AV.gh t23)], stk := [[(0, AV.ptr 0 0), (1, AV.map 1), (2, AV.map 2)]], H := [AE.Obj.cells [AV.map 1, AV.map 2], Obj.mp IntKind.i64 (Ty.int IntKind.i64) o1, Obj.mp IntKind.i64 (Ty.int IntKind.i64) o2, AE.Obj.cells [AV.ptr 0 0], AE.Obj.cells [AV.map 2]], blk := 65536 }
def decshadow_Shadow_int_Keep_n0 (s : St) : Option (Ishadow_Shadow_int_Keep_n0 × Vshadow_Shadow_int_Keep_n0) := match s with
  | { env := [(1, AV.ptr 3 0), (12, AV.fn (Fn.func 35) [] [AV.ptr 4 0]), (23, AV.gh t23)], stk := [[(0, AV.ptr 0 0), (1, AV.map 1), (2, AV.map 2)]], H := [AE.Obj.cells [AV.map 1, AV.map 2], Obj.mp IntKind.i64 (Ty.int IntKind.i64) o1, Obj.mp IntKind.i64 (Ty.int IntKind.i64) o2, AE.Obj.cells [AV.ptr 0 0], AE.Obj.cells [AV.map 2]], blk := 65536 } => some (o2, (t23, o1))
  | _ => none
theorem decshadow_Shadow_int_Keep_n0_ok (s : St) (x : Ishadow_Shadow_int_Keep_n0 × Vshadow_Shadow_int_Keep_n0) (h : decshadow_Shadow_int_Keep_n0 s = some x) : s = Sshadow_Shadow_int_Keep_n0 x.1 x.2 := by
  unfold decshadow_Shadow_int_Keep_n0 at h
  split at h
  · cases h; rfl
  · cases h
def outshadow_Shadow_int_Keep_n0 : Ishadow_Shadow_int_Keep_n0 → (Ex → St → Ans) → Yshadow_Shadow_int_Keep_n0 → Ans := fun o2 K => fun o1_y => K (Ex.norm) { env := [(1, AV.ptr 3 0)], stk := [[(0, AV.ptr 0 0), (1, AV.map 1), (2, AV.map 2)]], H := [AE.Obj.cells [AV.map 1, AV.map 2], Obj.mp IntKind.i64 (Ty.int IntKind.i64) o1_y, Obj.mp IntKind.i64 (Ty.int IntKind.i64) o2, AE.Obj.cells [AV.ptr 0 0]], blk := 65536 }
def stepshadow_Shadow_int_Keep_n0 {β : Type} : Ishadow_Shadow_int_Keep_n0 → Vshadow_Shadow_int_Keep_n0 → (Vshadow_Shadow_int_Keep_n0 → Option β) → (Yshadow_Shadow_int_Keep_n0 → Option β) → Option β := fun o2 (t23, o1) next exit => (bif isNil t23 then (exit (o1)) else (bindO (List.head? t23) fun x => (next (List.tail t23, mput x (mget x (0 : Int) o2) o1))))
def stepDshadow_Shadow_int_Keep_n0 (i : Ishadow_Shadow_int_Keep_n0) (v : Vshadow_Shadow_int_Keep_n0) : Option (Vshadow_Shadow_int_Keep_n0 ⊕ Yshadow_Shadow_int_Keep_n0) := stepshadow_Shadow_int_Keep_n0 i v (fun v => some (.inl v)) (fun y => some (.inr y))
theorem stepshadow_Shadow_int_Keep_n0_nat (i : Ishadow_Shadow_int_Keep_n0) (v : Vshadow_Shadow_int_Keep_n0) (next : Vshadow_Shadow_int_Keep_n0 → Ans) (exit : Yshadow_Shadow_int_Keep_n0 → Ans) : stepshadow_Shadow_int_Keep_n0 i v next exit = bindO (stepDshadow_Shadow_int_Keep_n0 i v) (Sum.elim next exit) := by
  obtain z := i
  obtain ⟨t23, o1⟩ := v
  simp only [stepDshadow_Shadow_int_Keep_n0, stepshadow_Shadow_int_Keep_n0, bindO_cond, bindO_assoc, bindO_none, bindO_pure, bindO_elim, bindO_unP, bindO_empty, Sum.elim_inl, Sum.elim_inr]
theorem stepshadow_Shadow_int_Keep_n0_ok (n : Nat) (i : Ishadow_Shadow_int_Keep_n0) (v : Vshadow_Shadow_int_Keep_n0) (K : Ex → St → Ans) : codeI Try.tab envshadow_Shadow_int_Keep noHint (codeD Try.tab envshadow_Shadow_int_Keep noHint 0 64) (n+1) 23 (.rnd annLshadow_Shadow_int_Keep_n0) (.rangeFunc (rfG Lshadow_Shadow_int_Keep_n0) (rfPs Lshadow_Shadow_int_Keep_n0) (rfAs Lshadow_Shadow_int_Keep_n0) (rfC Lshadow_Shadow_int_Keep_n0)) (weakP 3 (exk [1] [] []) K) (Sshadow_Shadow_int_Keep_n0 i v) = stepshadow_Shadow_int_Keep_n0 i v (fun v' => codeI Try.tab envshadow_Shadow_int_Keep noHint (codeD Try.tab envshadow_Shadow_int_Keep noHint 0 64) n 23 (.rnd annLshadow_Shadow_int_Keep_n0) (.rangeFunc (rfG Lshadow_Shadow_int_Keep_n0) (rfPs Lshadow_Shadow_int_Keep_n0) (rfAs Lshadow_Shadow_int_Keep_n0) (rfC Lshadow_Shadow_int_Keep_n0)) (weakP 3 (exk [1] [] []) K) (Sshadow_Shadow_int_Keep_n0 i v')) (fun y => outshadow_Shadow_int_Keep_n0 i K y) := by kernel_rfl
theorem GNshadow_Shadow_int_Keep_n0_ok : RH Try.tab envshadow_Shadow_int_Keep 23 annLshadow_Shadow_int_Keep_n0 (.rangeFunc (rfG Lshadow_Shadow_int_Keep_n0) (rfPs Lshadow_Shadow_int_Keep_n0) (rfAs Lshadow_Shadow_int_Keep_n0) (rfC Lshadow_Shadow_int_Keep_n0)) 3 (exk [1] [] []) (sumL decshadow_Shadow_int_Keep_n0 stepDshadow_Shadow_int_Keep_n0 outshadow_Shadow_int_Keep_n0) := rh_loop decshadow_Shadow_int_Keep_n0_ok stepshadow_Shadow_int_Keep_n0_ok stepshadow_Shadow_int_Keep_n0_nat
noncomputable def Gshadow_Shadow_int_Keep_n0 : (Ex → St → Ans) → St → Ans := startG envshadow_Shadow_int_Keep 23 3 [1, 12, 23] (rfG Lshadow_Shadow_int_Keep_n0) (sumL decshadow_Shadow_int_Keep_n0 stepDshadow_Shadow_int_Keep_n0 outshadow_Shadow_int_Keep_n0)
theorem Gshadow_Shadow_int_Keep_n0_ok : CSum Try.prog 23 Lshadow_Shadow_int_Keep_n0 Gshadow_Shadow_int_Keep_n0 := csum_rh mixed tabOk envshadow_Shadow_int_KeepOk [1, 12, 23] Lshadow_Shadow_int_Keep_n0_eq annLshadow_Shadow_int_Keep_n0_ok GNshadow_Shadow_int_Keep_n0_ok
noncomputable def annshadow_Shadow_int_Keep : Ann := (.seq .none (.seq .none (.seq .none (.seq (.seq .none (.block (.cut 3 [1, 12] Gshadow_Shadow_int_Keep_n0))) .none))))
theorem annshadow_Shadow_int_Keep_ok : AnnOk Try.prog 23 bshadow_Shadow_int_Keep annshadow_Shadow_int_Keep := ⟨(annOk_none _ _ _), ⟨(annOk_none _ _ _), ⟨(annOk_none _ _ _), ⟨⟨(annOk_none _ _ _), Gshadow_Shadow_int_Keep_n0_ok⟩, (annOk_none _ _ _)⟩⟩⟩⟩
abbrev Ashadow_Shadow_int_Keep := (List (Int × Int)) × (List (Int × Int))
abbrev Yshadow_Shadow_int_Keep := (List (Int × Int))
def fnshadow_Shadow_int_Keep {β : Type} : Ashadow_Shadow_int_Keep → (Yshadow_Shadow_int_Keep → Option β) → Option β := fun (o1, o2) exit => (bindO (fnDshadow_Shadow_int_made (o1, o2)) fun _ => (bindO (fnDshadow_layer_int_each (o2)) fun _ => (bif Nat.ble (List.length o2) (1000000 : Nat) then (bindO (loopD (stepDshadow_Shadow_int_Keep_n0 (o2)) FUEL (keysOf o2, o1)) fun o1_2 => (bindO (fnDshadow_Shadow_int_Back (o1_2, o2)) fun _ => (exit (o1_2)))) else none)))
def fnDshadow_Shadow_int_Keep (a : Ashadow_Shadow_int_Keep) : Option Yshadow_Shadow_int_Keep := fnshadow_Shadow_int_Keep a some
theorem fnshadow_Shadow_int_Keep_nat (a : Ashadow_Shadow_int_Keep) (k : Yshadow_Shadow_int_Keep → Ans) : fnshadow_Shadow_int_Keep a k = bindO (fnDshadow_Shadow_int_Keep a) k := by
  obtain ⟨o1, o2⟩ := a
  simp only [fnDshadow_Shadow_int_Keep, fnshadow_Shadow_int_Keep, bindO_cond, bindO_assoc, bindO_none, bindO_pure, bindO_elim, bindO_unP, bindO_empty]
def argsshadow_Shadow_int_Keep : Ashadow_Shadow_int_Keep → List AV × List AE.Obj := fun (o1, o2) => ([AV.ptr 0 0], [AE.Obj.cells [AV.map 1, AV.map 2], Obj.mp IntKind.i64 (Ty.int IntKind.i64) o1, Obj.mp IntKind.i64 (Ty.int IntKind.i64) o2])
def decAshadow_Shadow_int_Keep (l : List AV) (H : List AE.Obj) : Option Ashadow_Shadow_int_Keep := match l, H with
  | [AV.ptr 0 0], [AE.Obj.cells [AV.map 1, AV.map 2], Obj.mp IntKind.i64 (Ty.int IntKind.i64) o1, Obj.mp IntKind.i64 (Ty.int IntKind.i64) o2] => some (o1, o2)
  | _, _ => none
theorem decAshadow_Shadow_int_Keep_ok (l : List AV) (H : List AE.Obj) (a : Ashadow_Shadow_int_Keep) (h : decAshadow_Shadow_int_Keep l H = some a) : (l, H) = argsshadow_Shadow_int_Keep a := by
  unfold decAshadow_Shadow_int_Keep at h
  split at h
  · cases h; rfl
  · cases h
def outshadow_Shadow_int_Keep : Ashadow_Shadow_int_Keep → (AV → List AE.Obj → Ans) → Yshadow_Shadow_int_Keep → Ans := fun (o1, o2) K => fun o1_y => K (AV.tup []) [AE.Obj.cells [AV.map 1, AV.map 3], Obj.mp IntKind.i64 (Ty.int IntKind.i64) o1_y, Obj.mp IntKind.i64 (Ty.int IntKind.i64) o2, Obj.mp IntKind.i64 (Ty.int IntKind.i64) ([])]
theorem fnshadow_Shadow_int_Keep_ok (a : Ashadow_Shadow_int_Keep) (K : AV → List AE.Obj → Ans) : fnE Try.tab envshadow_Shadow_int_Keep noHint 0 70 16 Try.f16.ntmps Try.f16.results.toList annshadow_Shadow_int_Keep bshadow_Shadow_int_Keep (argsshadow_Shadow_int_Keep a).1 (argsshadow_Shadow_int_Keep a).2 K = fnshadow_Shadow_int_Keep a (outshadow_Shadow_int_Keep a K) := by kernel_rfl
def vFshadow_Shadow_int_Keep (a : Ashadow_Shadow_int_Keep) (K : AV → List AE.Obj → Ans) : Ans := bindO (fnDshadow_Shadow_int_Keep a) fun y => outshadow_Shadow_int_Keep a K y
def Fshadow_Shadow_int_Keep : List AV → List AE.Obj → (AV → List AE.Obj → Ans) → Ans := fun l H K => bindO (decAshadow_Shadow_int_Keep l H) fun a => vFshadow_Shadow_int_Keep a K
theorem Fshadow_Shadow_int_Keep_ok : FuncOk Try.prog 16 Fshadow_Shadow_int_Keep := func_mkD (hint := noHint) (d := 0) (n := 70) mixed tabOk envshadow_Shadow_int_KeepOk Try.func16 (bodySome (by kernel_rfl)) (by decide +kernel) annshadow_Shadow_int_Keep_ok decAshadow_Shadow_int_Keep_ok fnshadow_Shadow_int_Keep_ok fnshadow_Shadow_int_Keep_nat
--@ shadow_Shadow_int_Get
noncomputable def envshadow_Shadow_int_Get : Env := []
theorem envshadow_Shadow_int_GetOk : EnvOk Try.prog envshadow_Shadow_int_Get := EnvOk.nil
noncomputable def bshadow_Shadow_int_Get : Code := Try.f20.body.getD .skip
noncomputable def annshadow_Shadow_int_Get : Ann := .none
theorem annshadow_Shadow_int_Get_ok : AnnOk Try.prog 36 bshadow_Shadow_int_Get annshadow_Shadow_int_Get := (annOk_none _ _ _)
abbrev Ashadow_Shadow_int_Get := (Int) × (List (Int × Int)) × (List (Int × Int))
abbrev Yshadow_Shadow_int_Get := (Int) × (Bool)
def fnshadow_Shadow_int_Get {β : Type} : Ashadow_Shadow_int_Get → (Yshadow_Shadow_int_Get → Option β) → Option β := fun (a1, o1, o2) exit => (bif mhas a1 o2 then (exit (mget a1 (0 : Int) o2, true)) else (exit (mget a1 (0 : Int) o1, mhas a1 o1)))
def fnDshadow_Shadow_int_Get (a : Ashadow_Shadow_int_Get) : Option Yshadow_Shadow_int_Get := fnshadow_Shadow_int_Get a some
theorem fnshadow_Shadow_int_Get_nat (a : Ashadow_Shadow_int_Get) (k : Yshadow_Shadow_int_Get → Ans) : fnshadow_Shadow_int_Get a k = bindO (fnDshadow_Shadow_int_Get a) k := by
  obtain ⟨a1, o1, o2⟩ := a
  simp only [fnDshadow_Shadow_int_Get, fnshadow_Shadow_int_Get, bindO_cond, bindO_assoc, bindO_none, bindO_pure, bindO_elim, bindO_unP, bindO_empty]
def argsshadow_Shadow_int_Get : Ashadow_Shadow_int_Get → List AV × List AE.Obj := fun (a1, o1, o2) => ([AV.ptr 0 0, AV.int IntKind.i64 a1], [AE.Obj.cells [AV.map 1, AV.map 2], Obj.mp IntKind.i64 (Ty.int IntKind.i64) o1, Obj.mp IntKind.i64 (Ty.int IntKind.i64) o2])
def decAshadow_Shadow_int_Get (l : List AV) (H : List AE.Obj) : Option Ashadow_Shadow_int_Get := match l, H with
  | [AV.ptr 0 0, AV.int IntKind.i64 a1], [AE.Obj.cells [AV.map 1, AV.map 2], Obj.mp IntKind.i64 (Ty.int IntKind.i64) o1, Obj.mp IntKind.i64 (Ty.int IntKind.i64) o2] => some (a1, o1, o2)
  | _, _ => none
theorem decAshadow_Shadow_int_Get_ok (l : List AV) (H : List AE.Obj) (a : Ashadow_Shadow_int_Get) (h : decAshadow_Shadow_int_Get l H = some a) : (l, H) = argsshadow_Shadow_int_Get a := by
  unfold decAshadow_Shadow_int_Get at h
  split at h
  · cases h; rfl
  · cases h
def outshadow_Shadow_int_Get : Ashadow_Shadow_int_Get → (AV → List AE.Obj → Ans) → Yshadow_Shadow_int_Get → Ans := fun (a1, o1, o2) K => unP fun r_0_y r_1_y => K (AV.tup [AV.int IntKind.i64 r_0_y, AV.bool r_1_y]) [AE.Obj.cells [AV.map 1, AV.map 2], Obj.mp IntKind.i64 (Ty.int IntKind.i64) o1, Obj.mp IntKind.i64 (Ty.int IntKind.i64) o2]
theorem fnshadow_Shadow_int_Get_ok (a : Ashadow_Shadow_int_Get) (K : AV → List AE.Obj → Ans) : fnE Try.tab envshadow_Shadow_int_Get noHint 0 70 20 Try.f20.ntmps Try.f20.results.toList annshadow_Shadow_int_Get bshadow_Shadow_int_Get (argsshadow_Shadow_int_Get a).1 (argsshadow_Shadow_int_Get a).2 K = fnshadow_Shadow_int_Get a (outshadow_Shadow_int_Get a K) := by kernel_rfl
def vFshadow_Shadow_int_Get (a : Ashadow_Shadow_int_Get) (K : AV → List AE.Obj → Ans) : Ans := bindO (fnDshadow_Shadow_int_Get a) fun y => outshadow_Shadow_int_Get a K y
def Fshadow_Shadow_int_Get : List AV → List AE.Obj → (AV → List AE.Obj → Ans) → Ans := fun l H K => bindO (decAshadow_Shadow_int_Get l H) fun a => vFshadow_Shadow_int_Get a K
theorem Fshadow_Shadow_int_Get_ok : FuncOk Try.prog 20 Fshadow_Shadow_int_Get := func_mkD (hint := noHint) (d := 0) (n := 70) mixed tabOk envshadow_Shadow_int_GetOk Try.func20 (bodySome (by kernel_rfl)) (by decide +kernel) annshadow_Shadow_int_Get_ok decAshadow_Shadow_int_Get_ok fnshadow_Shadow_int_Get_ok fnshadow_Shadow_int_Get_nat
--@ shadow_Shadow_int_Loose
noncomputable def envshadow_Shadow_int_Loose : Env := []
theorem envshadow_Shadow_int_LooseOk : EnvOk Try.prog envshadow_Shadow_int_Loose := EnvOk.nil
noncomputable def bshadow_Shadow_int_Loose : Code := Try.f22.body.getD .skip
noncomputable def annshadow_Shadow_int_Loose : Ann := .none
theorem annshadow_Shadow_int_Loose_ok : AnnOk Try.prog 10 bshadow_Shadow_int_Loose annshadow_Shadow_int_Loose := (annOk_none _ _ _)
abbrev Ashadow_Shadow_int_Loose := (List (Int × Int)) × (List (Int × Int))
abbrev Yshadow_Shadow_int_Loose := (Int)
def fnshadow_Shadow_int_Loose {β : Type} : Ashadow_Shadow_int_Loose → (Yshadow_Shadow_int_Loose → Option β) → Option β := fun (o1, o2) exit => (exit ((↑(List.length o2) : Int)))
def fnDshadow_Shadow_int_Loose (a : Ashadow_Shadow_int_Loose) : Option Yshadow_Shadow_int_Loose := fnshadow_Shadow_int_Loose a some
theorem fnshadow_Shadow_int_Loose_nat (a : Ashadow_Shadow_int_Loose) (k : Yshadow_Shadow_int_Loose → Ans) : fnshadow_Shadow_int_Loose a k = bindO (fnDshadow_Shadow_int_Loose a) k := by
  obtain ⟨o1, o2⟩ := a
  simp only [fnDshadow_Shadow_int_Loose, fnshadow_Shadow_int_Loose, bindO_cond, bindO_assoc, bindO_none, bindO_pure, bindO_elim, bindO_unP, bindO_empty]
def argsshadow_Shadow_int_Loose : Ashadow_Shadow_int_Loose → List AV × List AE.Obj := fun (o1, o2) => ([AV.ptr 0 0], [AE.Obj.cells [AV.map 1, AV.map 2], Obj.mp IntKind.i64 (Ty.int IntKind.i64) o1, Obj.mp IntKind.i64 (Ty.int IntKind.i64) o2])
def decAshadow_Shadow_int_Loose (l : List AV) (H : List AE.Obj) : Option Ashadow_Shadow_int_Loose := match l, H with
  | [AV.ptr 0 0], [AE.Obj.cells [AV.map 1, AV.map 2], Obj.mp IntKind.i64 (Ty.int IntKind.i64) o1, Obj.mp IntKind.i64 (Ty.int IntKind.i64) o2] => some (o1, o2)
  | _, _ => none
theorem decAshadow_Shadow_int_Loose_ok (l : List AV) (H : List AE.Obj) (a : Ashadow_Shadow_int_Loose) (h : decAshadow_Shadow_int_Loose l H = some a) : (l, H) = argsshadow_Shadow_int_Loose a := by
  unfold decAshadow_Shadow_int_Loose at h
  split at h
  · cases h; rfl
  · cases h
def outshadow_Shadow_int_Loose : Ashadow_Shadow_int_Loose → (AV → List AE.Obj → Ans) → Yshadow_Shadow_int_Loose → Ans := fun (o1, o2) K => fun r_y => K (AV.int IntKind.i64 r_y) [AE.Obj.cells [AV.map 1, AV.map 2], Obj.mp IntKind.i64 (Ty.int IntKind.i64) o1, Obj.mp IntKind.i64 (Ty.int IntKind.i64) o2]
theorem fnshadow_Shadow_int_Loose_ok (a : Ashadow_Shadow_int_Loose) (K : AV → List AE.Obj → Ans) : fnE Try.tab envshadow_Shadow_int_Loose noHint 0 70 22 Try.f22.ntmps Try.f22.results.toList annshadow_Shadow_int_Loose bshadow_Shadow_int_Loose (argsshadow_Shadow_int_Loose a).1 (argsshadow_Shadow_int_Loose a).2 K = fnshadow_Shadow_int_Loose a (outshadow_Shadow_int_Loose a K) := by kernel_rfl
def vFshadow_Shadow_int_Loose (a : Ashadow_Shadow_int_Loose) (K : AV → List AE.Obj → Ans) : Ans := bindO (fnDshadow_Shadow_int_Loose a) fun y => outshadow_Shadow_int_Loose a K y
def Fshadow_Shadow_int_Loose : List AV → List AE.Obj → (AV → List AE.Obj → Ans) → Ans := fun l H K => bindO (decAshadow_Shadow_int_Loose l H) fun a => vFshadow_Shadow_int_Loose a K
theorem Fshadow_Shadow_int_Loose_ok : FuncOk Try.prog 22 Fshadow_Shadow_int_Loose := func_mkD (hint := noHint) (d := 0) (n := 70) mixed tabOk envshadow_Shadow_int_LooseOk Try.func22 (bodySome (by kernel_rfl)) (by decide +kernel) annshadow_Shadow_int_Loose_ok decAshadow_Shadow_int_Loose_ok fnshadow_Shadow_int_Loose_ok fnshadow_Shadow_int_Loose_nat
--@ law13_works
noncomputable def envlaw13_works : Env := [(13, .func Fshadow_New_int), (14, .func Fshadow_Shadow_int_Put), (18, .func Fshadow_Shadow_int_Back), (16, .func Fshadow_Shadow_int_Keep), (20, .func Fshadow_Shadow_int_Get), (22, .func Fshadow_Shadow_int_Loose)]
theorem envlaw13_worksOk : EnvOk Try.prog envlaw13_works := EnvOk.cons Fshadow_New_int_ok (EnvOk.cons Fshadow_Shadow_int_Put_ok (EnvOk.cons Fshadow_Shadow_int_Back_ok (EnvOk.cons Fshadow_Shadow_int_Keep_ok (EnvOk.cons Fshadow_Shadow_int_Get_ok (EnvOk.cons Fshadow_Shadow_int_Loose_ok (EnvOk.nil))))))
noncomputable def blaw13_works : Code := Try.f6.body.getD .skip
noncomputable def Llaw13_works_n0 : Code := codeAt [1, 1, 1, 1, 1, 1, 1, 1, 0] blaw13_works
noncomputable def annLlaw13_works_n0 : Ann := .none
theorem annLlaw13_works_n0_ok : AnnOk Try.prog 42 Llaw13_works_n0 annLlaw13_works_n0 := (annOk_none _ _ _)
abbrev Ilaw13_works_n0 := (Int) × (Bool) × (Int) × (Bool) × (List (Int × Int))
abbrev Ylaw13_works_n0 := (Bool)
def Slaw13_works_n0 : Ilaw13_works_n0 → St := fun (t2, t3, t4, t5, o1) => { env := [(1, AV.ptr 0 0), (2, AV.int IntKind.i64 t2), (3, AV.bool t3), (4, AV.int IntKind.i64 t4), (5, AV.bool t5)], stk := [[]], H := [AE.Obj.cells [AV.map 1, AV.map 2], Obj.mp IntKind.i64 (Ty.int IntKind.i64) o1, Obj.mp IntKind.i64 (Ty.int IntKind.i64) ([])], blk := 24576 }
def declaw13_works_n0 (s : St) : Option Ilaw13_works_n0 := match s with
  | { env := [(1, AV.ptr 0 0), (2, AV.int IntKind.i64 t2), (3, AV.bool t3), (4, AV.int IntKind.i64 t4), (5, AV.bool t5)], stk := [[]], H := [AE.Obj.cells [AV.map 1, AV.map 2], Obj.mp IntKind.i64 (Ty.int IntKind.i64) o1, Obj.mp IntKind.i64 (Ty.int IntKind.i64) r5], blk := 24576 } => cond (decide (r5 = [])) (some (t2, t3, t4, t5, o1)) none
  | _ => none
theorem declaw13_works_n0_ok (s : St) (x : Ilaw13_works_n0) (h : declaw13_works_n0 s = some x) : s = Slaw13_works_n0 x := by
  unfold declaw13_works_n0 at h
  split at h
  · replace h := cond_noneO h; obtain ⟨hg, h⟩ := h; simp only [Bool.and_eq_true, decide_eq_true_eq] at hg; simp only [hg]; cases h; rfl
  · cases h
def outlaw13_works_n0 : Ilaw13_works_n0 → (Ex → St → Ans) → Ylaw13_works_n0 → Ans := fun (t2, t3, t4, t5, o1) K => fun t0_y => K (Ex.norm) { env := [(0, AV.bool t0_y)], stk := [[]], H := [], blk := 24576 }
def nodelaw13_works_n0 {β : Type} : Ilaw13_works_n0 → (Ylaw13_works_n0 → Option β) → Option β := fun (t2, t3, t4, t5, o1) exit => (bif t2 == (6 : Int) then (bif t3 then (bif t4 == (5 : Int) then (bif t5 then (bindO (fnDshadow_Shadow_int_Loose (o1, [])) fun r => (exit (r == (0 : Int)))) else (exit (false))) else (exit (false))) else (exit (false))) else (exit (false)))
def nodeDlaw13_works_n0 (i : Ilaw13_works_n0) : Option Ylaw13_works_n0 := nodelaw13_works_n0 i some
theorem nodelaw13_works_n0_nat (i : Ilaw13_works_n0) (k : Ylaw13_works_n0 → Ans) : nodelaw13_works_n0 i k = bindO (nodeDlaw13_works_n0 i) k := by
  obtain ⟨t2, t3, t4, t5, o1⟩ := i
  simp only [nodeDlaw13_works_n0, nodelaw13_works_n0, bindO_cond, bindO_assoc, bindO_none, bindO_pure, bindO_elim, bindO_unP, bindO_empty]
theorem nodelaw13_works_n0_ok (i : Ilaw13_works_n0) (K : Ex → St → Ans) : codeI Try.tab envlaw13_works noHint (codeD Try.tab envlaw13_works noHint 0 64) 70 42 annLlaw13_works_n0 Llaw13_works_n0 (weakP 0 (exk [0] [0] []) K) (Slaw13_works_n0 i) = nodelaw13_works_n0 i (outlaw13_works_n0 i K) := by kernel_rfl
theorem GNlaw13_works_n0_ok : CSum Try.prog 42 Llaw13_works_n0 (sumN declaw13_works_n0 nodeDlaw13_works_n0 outlaw13_works_n0) := csum_node mixed tabOk envlaw13_worksOk 0 (exk [0] [0] []) annLlaw13_works_n0_ok declaw13_works_n0_ok nodelaw13_works_n0_ok nodelaw13_works_n0_nat
noncomputable def Glaw13_works_n0 : (Ex → St → Ans) → St → Ans := (sumN declaw13_works_n0 nodeDlaw13_works_n0 outlaw13_works_n0)
theorem Glaw13_works_n0_ok : CSum Try.prog 42 Llaw13_works_n0 Glaw13_works_n0 := GNlaw13_works_n0_ok
noncomputable def annlaw13_works : Ann := (.seq .none (.seq .none (.seq .none (.seq .none (.seq .none (.seq .none (.seq .none (.seq .none (.seq (.cut 0 [1, 2, 3, 4, 5] Glaw13_works_n0) .none)))))))))
theorem annlaw13_works_ok : AnnOk Try.prog 42 blaw13_works annlaw13_works := ⟨(annOk_none _ _ _), ⟨(annOk_none _ _ _), ⟨(annOk_none _ _ _), ⟨(annOk_none _ _ _), ⟨(annOk_none _ _ _), ⟨(annOk_none _ _ _), ⟨(annOk_none _ _ _), ⟨(annOk_none _ _ _), ⟨Glaw13_works_n0_ok, (annOk_none _ _ _)⟩⟩⟩⟩⟩⟩⟩⟩⟩
abbrev Alaw13_works := Unit
abbrev Ylaw13_works := (Bool)
def fnlaw13_works {β : Type} : Alaw13_works → (Ylaw13_works → Option β) → Option β := fun _ exit => (bindO (fnDshadow_New_int ()) fun _ => (bindO (fnDshadow_Shadow_int_Put ((3 : Int), (5 : Int), [], [])) fun o2 => (bindO (fnDshadow_Shadow_int_Keep ([], o2)) fun o1 => (bindO (fnDshadow_Shadow_int_Put ((3 : Int), (6 : Int), o1, [])) fun o2_2 => (bindO (fnDshadow_Shadow_int_Get ((3 : Int), o1, o2_2)) (unP fun r_0 r_1 => (bindO (fnDshadow_Shadow_int_Back (o1, o2_2)) fun _ => (bindO (fnDshadow_Shadow_int_Get ((3 : Int), o1, [])) (unP fun r_0_2 r_1_2 => (bindO (nodeDlaw13_works_n0 (r_0, r_1, r_0_2, r_1_2, o1)) fun t0 => (exit (t0))))))))))))
def fnDlaw13_works (a : Alaw13_works) : Option Ylaw13_works := fnlaw13_works a some
theorem fnlaw13_works_nat (a : Alaw13_works) (k : Ylaw13_works → Ans) : fnlaw13_works a k = bindO (fnDlaw13_works a) k := by
  obtain z := a
  simp only [fnDlaw13_works, fnlaw13_works, bindO_cond, bindO_assoc, bindO_none, bindO_pure, bindO_elim, bindO_unP, bindO_empty]
def argslaw13_works : Alaw13_works → List AV := fun _ => []
def decAlaw13_works (l : List AV) : Option Alaw13_works := match l with
  | [] => some ()
  | _ => none
theorem decAlaw13_works_ok (l : List AV) (a : Alaw13_works) (h : decAlaw13_works l = some a) : l = argslaw13_works a := by
  unfold decAlaw13_works at h
  split at h
  · cases h; rfl
  · cases h
def rendlaw13_works : Alaw13_works → Ylaw13_works → AV := fun _ => fun r_y => AV.bool r_y
theorem rendlaw13_works_ok : ∀ (a : Alaw13_works) (y : Ylaw13_works), (rendlaw13_works a y).closed1 = true := by
  rintro z y <;> first | rfl | exact Empty.elim y
theorem fnlaw13_works_ok (a : Alaw13_works) : fnE Try.tab envlaw13_works noHint 0 70 6 Try.f6.ntmps Try.f6.results.toList annlaw13_works blaw13_works (argslaw13_works a) [] (fun v _ => some (v, [])) = fnlaw13_works a (fun y => some (rendlaw13_works a y, [])) := by kernel_rfl
def vFlaw13_works (a : Alaw13_works) (K : AV → Ans) : Ans := bindO (fnDlaw13_works a) fun y => K (rendlaw13_works a y)
def Flaw13_works : List AV → (AV → Ans) → Ans := fun l K => bindO (decAlaw13_works l) fun a => vFlaw13_works a K
theorem Flaw13_works_ok : PureOk Try.prog 6 Flaw13_works := pure_mkD (hint := noHint) (d := 0) (n := 70) mixed tabOk envlaw13_worksOk Try.func6 (bodySome (by kernel_rfl)) (by decide +kernel) annlaw13_works_ok decAlaw13_works_ok fnlaw13_works_ok fnlaw13_works_nat rendlaw13_works_ok
--@ ref13_with
noncomputable def envref13_with : Env := []
theorem envref13_withOk : EnvOk Try.prog envref13_with := EnvOk.nil
noncomputable def bref13_with : Code := Try.f29.body.getD .skip
noncomputable def Lref13_with_n3 : Code := codeAt [1, 1, 1, 1, 1, 0, 1] bref13_with
noncomputable def annLref13_with_n3 : Ann := .none
theorem annLref13_with_n3_ok : AnnOk Try.prog 53 Lref13_with_n3 annLref13_with_n3 := (annOk_none _ _ _)
abbrev Iref13_with_n3 := (List (Int × Int)) × (Int) × (Bool) × (List (Int × Int))
abbrev Yref13_with_n3 := (Int)
def Sref13_with_n3 : Iref13_with_n3 → St := fun (t0, t5, t45, o0) => { env := [(0, AV.ro (Ty.st (Ty.pair (Ty.int IntKind.i64) (Ty.int IntKind.i64))) t0), (5, AV.int IntKind.i64 t5), (6, AV.own 0), (45, AV.bool t45)], stk := [[]], H := [Obj.arr (Ty.st (Ty.pair (Ty.int IntKind.i64) (Ty.int IntKind.i64))) o0], blk := 118784 }
def decref13_with_n3 (s : St) : Option Iref13_with_n3 := match s with
  | { env := [(0, AV.ro (Ty.st (Ty.pair (Ty.int IntKind.i64) (Ty.int IntKind.i64))) t0), (5, AV.int IntKind.i64 t5), (6, AV.own 0), (45, AV.bool t45)], stk := [[]], H := [Obj.arr (Ty.st (Ty.pair (Ty.int IntKind.i64) (Ty.int IntKind.i64))) o0], blk := 118784 } => some (t0, t5, t45, o0)
  | _ => none
theorem decref13_with_n3_ok (s : St) (x : Iref13_with_n3) (h : decref13_with_n3 s = some x) : s = Sref13_with_n3 x := by
  unfold decref13_with_n3 at h
  split at h
  · cases h; rfl
  · cases h
def outref13_with_n3 : Iref13_with_n3 → (Ex → St → Ans) → Yref13_with_n3 → Ans := fun (t0, t5, t45, o0) K => fun t5_y => K (Ex.norm) { env := [(0, AV.ro (Ty.st (Ty.pair (Ty.int IntKind.i64) (Ty.int IntKind.i64))) t0), (5, AV.int IntKind.i64 t5_y), (6, AV.own 0)], stk := [[]], H := [Obj.arr (Ty.st (Ty.pair (Ty.int IntKind.i64) (Ty.int IntKind.i64))) o0], blk := 118784 }
def noderef13_with_n3 {β : Type} : Iref13_with_n3 → (Yref13_with_n3 → Option β) → Option β := fun (t0, t5, t45, o0) exit => (bif t45 then (exit (IntKind.wrap IntKind.i64 (t5 + (1 : Int)))) else (exit (t5)))
def nodeDref13_with_n3 (i : Iref13_with_n3) : Option Yref13_with_n3 := noderef13_with_n3 i some
theorem noderef13_with_n3_nat (i : Iref13_with_n3) (k : Yref13_with_n3 → Ans) : noderef13_with_n3 i k = bindO (nodeDref13_with_n3 i) k := by
  obtain ⟨t0, t5, t45, o0⟩ := i
  simp only [nodeDref13_with_n3, noderef13_with_n3, bindO_cond, bindO_assoc, bindO_none, bindO_pure, bindO_elim, bindO_unP, bindO_empty]
theorem noderef13_with_n3_ok (i : Iref13_with_n3) (K : Ex → St → Ans) : codeI Try.tab envref13_with noHint (codeD Try.tab envref13_with noHint 0 64) 70 53 annLref13_with_n3 Lref13_with_n3 (weakP 0 (exk [0, 5, 6] [4] []) K) (Sref13_with_n3 i) = noderef13_with_n3 i (outref13_with_n3 i K) := by kernel_rfl
theorem GNref13_with_n3_ok : CSum Try.prog 53 Lref13_with_n3 (sumN decref13_with_n3 nodeDref13_with_n3 outref13_with_n3) := csum_node mixed tabOk envref13_withOk 0 (exk [0, 5, 6] [4] []) annLref13_with_n3_ok decref13_with_n3_ok noderef13_with_n3_ok noderef13_with_n3_nat
noncomputable def Gref13_with_n3 : (Ex → St → Ans) → St → Ans := (sumN decref13_with_n3 nodeDref13_with_n3 outref13_with_n3)
theorem Gref13_with_n3_ok : CSum Try.prog 53 Lref13_with_n3 Gref13_with_n3 := GNref13_with_n3_ok
noncomputable def Lref13_with_n2 : Code := codeAt [1, 1, 1, 1, 1, 0, 0] bref13_with
noncomputable def annLref13_with_n2 : Ann := .none
theorem annLref13_with_n2_ok : AnnOk Try.prog 53 Lref13_with_n2 annLref13_with_n2 := (annOk_none _ _ _)
abbrev Iref13_with_n2 := (List (Int × Int)) × (Int) × (Int) × (Int) × (List (Int × Int))
abbrev Yref13_with_n2 := (Bool)
def Sref13_with_n2 : Iref13_with_n2 → St := fun (t0, t5, o0_0, o0_1, o1) => { env := [(0, AV.ro (Ty.st (Ty.pair (Ty.int IntKind.i64) (Ty.int IntKind.i64))) t0), (3, AV.ptr 0 0), (5, AV.int IntKind.i64 t5), (6, AV.own 1)], stk := [[]], H := [AE.Obj.cells [AV.int IntKind.i64 o0_0, AV.int IntKind.i64 o0_1], Obj.arr (Ty.st (Ty.pair (Ty.int IntKind.i64) (Ty.int IntKind.i64))) o1], blk := 118784 }
def decref13_with_n2 (s : St) : Option Iref13_with_n2 := match s with
  | { env := [(0, AV.ro (Ty.st (Ty.pair (Ty.int IntKind.i64) (Ty.int IntKind.i64))) t0), (3, AV.ptr 0 0), (5, AV.int IntKind.i64 t5), (6, AV.own 1)], stk := [[]], H := [AE.Obj.cells [AV.int IntKind.i64 o0_0, AV.int IntKind.i64 o0_1], Obj.arr (Ty.st (Ty.pair (Ty.int IntKind.i64) (Ty.int IntKind.i64))) o1], blk := 118784 } => some (t0, t5, o0_0, o0_1, o1)
  | _ => none
theorem decref13_with_n2_ok (s : St) (x : Iref13_with_n2) (h : decref13_with_n2 s = some x) : s = Sref13_with_n2 x := by
  unfold decref13_with_n2 at h
  split at h
  · cases h; rfl
  · cases h
def outref13_with_n2 : Iref13_with_n2 → (Ex → St → Ans) → Yref13_with_n2 → Ans := fun (t0, t5, o0_0, o0_1, o1) K => fun t45_y => K (Ex.norm) { env := [(0, AV.ro (Ty.st (Ty.pair (Ty.int IntKind.i64) (Ty.int IntKind.i64))) t0), (5, AV.int IntKind.i64 t5), (6, AV.own 0), (45, AV.bool t45_y)], stk := [[]], H := [Obj.arr (Ty.st (Ty.pair (Ty.int IntKind.i64) (Ty.int IntKind.i64))) o1], blk := 118784 }
def noderef13_with_n2 {β : Type} : Iref13_with_n2 → (Yref13_with_n2 → Option β) → Option β := fun (t0, t5, o0_0, o0_1, o1) exit => (bif decide (t5 < (↑(List.length t0) : Int)) then (bindO (nth t0 t5) fun x => (exit (x.fst == o0_0))) else (exit (false)))
def nodeDref13_with_n2 (i : Iref13_with_n2) : Option Yref13_with_n2 := noderef13_with_n2 i some
theorem noderef13_with_n2_nat (i : Iref13_with_n2) (k : Yref13_with_n2 → Ans) : noderef13_with_n2 i k = bindO (nodeDref13_with_n2 i) k := by
  obtain ⟨t0, t5, o0_0, o0_1, o1⟩ := i
  simp only [nodeDref13_with_n2, noderef13_with_n2, bindO_cond, bindO_assoc, bindO_none, bindO_pure, bindO_elim, bindO_unP, bindO_empty]
theorem noderef13_with_n2_ok (i : Iref13_with_n2) (K : Ex → St → Ans) : codeI Try.tab envref13_with noHint (codeD Try.tab envref13_with noHint 0 64) 70 53 annLref13_with_n2 Lref13_with_n2 (weakP 0 (exk [0, 5, 6, 45] [4] []) K) (Sref13_with_n2 i) = noderef13_with_n2 i (outref13_with_n2 i K) := by kernel_rfl
theorem GNref13_with_n2_ok : CSum Try.prog 53 Lref13_with_n2 (sumN decref13_with_n2 nodeDref13_with_n2 outref13_with_n2) := csum_node mixed tabOk envref13_withOk 0 (exk [0, 5, 6, 45] [4] []) annLref13_with_n2_ok decref13_with_n2_ok noderef13_with_n2_ok noderef13_with_n2_nat
noncomputable def Gref13_with_n2 : (Ex → St → Ans) → St → Ans := (sumN decref13_with_n2 nodeDref13_with_n2 outref13_with_n2)
theorem Gref13_with_n2_ok : CSum Try.prog 53 Lref13_with_n2 Gref13_with_n2 := GNref13_with_n2_ok
noncomputable def Lref13_with_n1 : Code := codeAt [1, 1, 0, 0, 0, 0, 0] bref13_with
noncomputable def annLref13_with_n1 : Ann := .none
theorem annLref13_with_n1_ok : AnnOk Try.prog 53 Lref13_with_n1 annLref13_with_n1 := (annOk_none _ _ _)
abbrev Iref13_with_n1 := (List (Int × Int)) × (Int) × (Int) × (Int)
abbrev Yref13_with_n1 := (Bool)
def Sref13_with_n1 : Iref13_with_n1 → St := fun (t0, t5, o0_0, o0_1) => { env := [(0, AV.ro (Ty.st (Ty.pair (Ty.int IntKind.i64) (Ty.int IntKind.i64))) t0), (3, AV.ptr 0 0), (5, AV.int IntKind.i64 t5)], stk := [[]], H := [AE.Obj.cells [AV.int IntKind.i64 o0_0, AV.int IntKind.i64 o0_1]], blk := 118784 }
def decref13_with_n1 (s : St) : Option Iref13_with_n1 := match s with
  | { env := [(0, AV.ro (Ty.st (Ty.pair (Ty.int IntKind.i64) (Ty.int IntKind.i64))) t0), (3, AV.ptr 0 0), (5, AV.int IntKind.i64 t5)], stk := [[]], H := [AE.Obj.cells [AV.int IntKind.i64 o0_0, AV.int IntKind.i64 o0_1]], blk := 118784 } => some (t0, t5, o0_0, o0_1)
  | _ => none
theorem decref13_with_n1_ok (s : St) (x : Iref13_with_n1) (h : decref13_with_n1 s = some x) : s = Sref13_with_n1 x := by
  unfold decref13_with_n1 at h
  split at h
  · cases h; rfl
  · cases h
def outref13_with_n1 : Iref13_with_n1 → (Ex → St → Ans) → Yref13_with_n1 → Ans := fun (t0, t5, o0_0, o0_1) K => fun t20_y => K (Ex.norm) { env := [(0, AV.ro (Ty.st (Ty.pair (Ty.int IntKind.i64) (Ty.int IntKind.i64))) t0), (3, AV.ptr 0 0), (5, AV.int IntKind.i64 t5), (20, AV.bool t20_y)], stk := [[]], H := [AE.Obj.cells [AV.int IntKind.i64 o0_0, AV.int IntKind.i64 o0_1]], blk := 118784 }
def noderef13_with_n1 {β : Type} : Iref13_with_n1 → (Yref13_with_n1 → Option β) → Option β := fun (t0, t5, o0_0, o0_1) exit => (bif decide (t5 < (↑(List.length t0) : Int)) then (bindO (nth t0 t5) fun x => (exit (decide (x.fst < o0_0)))) else (exit (false)))
def nodeDref13_with_n1 (i : Iref13_with_n1) : Option Yref13_with_n1 := noderef13_with_n1 i some
theorem noderef13_with_n1_nat (i : Iref13_with_n1) (k : Yref13_with_n1 → Ans) : noderef13_with_n1 i k = bindO (nodeDref13_with_n1 i) k := by
  obtain ⟨t0, t5, o0_0, o0_1⟩ := i
  simp only [nodeDref13_with_n1, noderef13_with_n1, bindO_cond, bindO_assoc, bindO_none, bindO_pure, bindO_elim, bindO_unP, bindO_empty]
theorem noderef13_with_n1_ok (i : Iref13_with_n1) (K : Ex → St → Ans) : codeI Try.tab envref13_with noHint (codeD Try.tab envref13_with noHint 0 64) 70 53 annLref13_with_n1 Lref13_with_n1 (weakP 0 (exk [0, 3, 5, 20] [4] []) K) (Sref13_with_n1 i) = noderef13_with_n1 i (outref13_with_n1 i K) := by kernel_rfl
theorem GNref13_with_n1_ok : CSum Try.prog 53 Lref13_with_n1 (sumN decref13_with_n1 nodeDref13_with_n1 outref13_with_n1) := csum_node mixed tabOk envref13_withOk 0 (exk [0, 3, 5, 20] [4] []) annLref13_with_n1_ok decref13_with_n1_ok noderef13_with_n1_ok noderef13_with_n1_nat
noncomputable def Gref13_with_n1 : (Ex → St → Ans) → St → Ans := (sumN decref13_with_n1 nodeDref13_with_n1 outref13_with_n1)
theorem Gref13_with_n1_ok : CSum Try.prog 53 Lref13_with_n1 Gref13_with_n1 := GNref13_with_n1_ok
noncomputable def Lref13_with_n0 : Code := codeAt [1, 1, 0, 0, 0] bref13_with
noncomputable def annLref13_with_n0 : Ann := .at 0 [0, 3, 5] (.loop (.seq (.seq (.cut 0 [0, 3, 5] Gref13_with_n1) .none) .none))
theorem annLref13_with_n0_ok : AnnOk Try.prog 53 (.loop Lref13_with_n0) annLref13_with_n0 := annOk_at ⟨⟨Gref13_with_n1_ok, (annOk_none _ _ _)⟩, (annOk_none _ _ _)⟩
abbrev Iref13_with_n0 := (List (Int × Int)) × (Int) × (Int)
abbrev Yref13_with_n0 := (Int)
abbrev Vref13_with_n0 := (Int)
def Sref13_with_n0 : Iref13_with_n0 → Vref13_with_n0 → St := fun (t0, o0_0, o0_1) t5 => { env := [(0, AV.ro (Ty.st (Ty.pair (Ty.int IntKind.i64) (Ty.int IntKind.i64))) t0), (3, AV.ptr 0 0), (5, AV.int IntKind.i64 t5)], stk := [[]], H := [AE.Obj.cells [AV.int IntKind.i64 o0_0, AV.int IntKind.i64 o0_1]], blk := 118784 }
def decref13_with_n0 (s : St) : Option (Iref13_with_n0 × Vref13_with_n0) := match s with
  | { env := [(0, AV.ro (Ty.st (Ty.pair (Ty.int IntKind.i64) (Ty.int IntKind.i64))) t0), (3, AV.ptr 0 0), (5, AV.int IntKind.i64 t5)], stk := [[]], H := [AE.Obj.cells [AV.int IntKind.i64 o0_0, AV.int IntKind.i64 o0_1]], blk := 118784 } => some ((t0, o0_0, o0_1), t5)
  | _ => none
theorem decref13_with_n0_ok (s : St) (x : Iref13_with_n0 × Vref13_with_n0) (h : decref13_with_n0 s = some x) : s = Sref13_with_n0 x.1 x.2 := by
  unfold decref13_with_n0 at h
  split at h
  · cases h; rfl
  · cases h
def outref13_with_n0 : Iref13_with_n0 → (Ex → St → Ans) → Yref13_with_n0 → Ans := fun (t0, o0_0, o0_1) K => fun t5_y => K (Ex.exit 0) { env := [(0, AV.ro (Ty.st (Ty.pair (Ty.int IntKind.i64) (Ty.int IntKind.i64))) t0), (3, AV.ptr 0 0), (5, AV.int IntKind.i64 t5_y)], stk := [[]], H := [AE.Obj.cells [AV.int IntKind.i64 o0_0, AV.int IntKind.i64 o0_1]], blk := 118784 }
def stepref13_with_n0 {β : Type} : Iref13_with_n0 → Vref13_with_n0 → (Vref13_with_n0 → Option β) → (Yref13_with_n0 → Option β) → Option β := fun (t0, o0_0, o0_1) t5 next exit => (bindO (nodeDref13_with_n1 (t0, t5, o0_0, o0_1)) fun t20 => (bif t20 then (next (IntKind.wrap IntKind.i64 (t5 + (1 : Int)))) else (exit (t5))))
def stepDref13_with_n0 (i : Iref13_with_n0) (v : Vref13_with_n0) : Option (Vref13_with_n0 ⊕ Yref13_with_n0) := stepref13_with_n0 i v (fun v => some (.inl v)) (fun y => some (.inr y))
theorem stepref13_with_n0_nat (i : Iref13_with_n0) (v : Vref13_with_n0) (next : Vref13_with_n0 → Ans) (exit : Yref13_with_n0 → Ans) : stepref13_with_n0 i v next exit = bindO (stepDref13_with_n0 i v) (Sum.elim next exit) := by
  obtain ⟨t0, o0_0, o0_1⟩ := i
  obtain z := v
  simp only [stepDref13_with_n0, stepref13_with_n0, bindO_cond, bindO_assoc, bindO_none, bindO_pure, bindO_elim, bindO_unP, bindO_empty, Sum.elim_inl, Sum.elim_inr]
theorem stepref13_with_n0_ok (n : Nat) (i : Iref13_with_n0) (v : Vref13_with_n0) (K : Ex → St → Ans) : codeI Try.tab envref13_with noHint (codeD Try.tab envref13_with noHint 0 64) (n+1) 53 annLref13_with_n0 (.loop Lref13_with_n0) (weakP 0 (exk [0, 3, 5] [4] [(0, [0, 3, 5])]) K) (Sref13_with_n0 i v) = stepref13_with_n0 i v (fun v' => codeI Try.tab envref13_with noHint (codeD Try.tab envref13_with noHint 0 64) n 53 annLref13_with_n0 (.loop Lref13_with_n0) (weakP 0 (exk [0, 3, 5] [4] [(0, [0, 3, 5])]) K) (Sref13_with_n0 i v')) (fun y => outref13_with_n0 i K y) := by kernel_rfl
theorem GNref13_with_n0_ok : CSum Try.prog 53 (.loop Lref13_with_n0) (sumL decref13_with_n0 stepDref13_with_n0 outref13_with_n0) := csum_loop mixed tabOk envref13_withOk 0 (exk [0, 3, 5] [4] [(0, [0, 3, 5])]) annLref13_with_n0_ok decref13_with_n0_ok stepref13_with_n0_ok stepref13_with_n0_nat
noncomputable def Gref13_with_n0 : (Ex → St → Ans) → St → Ans := (sumL decref13_with_n0 stepDref13_with_n0 outref13_with_n0)
theorem Gref13_with_n0_ok : CSum Try.prog 53 (.loop Lref13_with_n0) Gref13_with_n0 := GNref13_with_n0_ok
noncomputable def annref13_with : Ann := (.seq .none (.seq .none (.seq (.block (.cut 0 [0, 3, 5] Gref13_with_n0)) (.seq .none (.seq .none (.seq (.seq (.cut 0 [0, 3, 5, 6] Gref13_with_n2) (.cut 0 [0, 5, 6, 45] Gref13_with_n3)) .none))))))
theorem annref13_with_ok : AnnOk Try.prog 53 bref13_with annref13_with := ⟨(annOk_none _ _ _), ⟨(annOk_none _ _ _), ⟨Gref13_with_n0_ok, ⟨(annOk_none _ _ _), ⟨(annOk_none _ _ _), ⟨⟨Gref13_with_n2_ok, Gref13_with_n3_ok⟩, (annOk_none _ _ _)⟩⟩⟩⟩⟩⟩
abbrev Aref13_with := (List (Int × Int)) × (Int) × (Int)
abbrev Yref13_with := (List (Int × Int))
def fnref13_with {β : Type} : Aref13_with → (Yref13_with → Option β) → Option β := fun (a0, a1_0, a1_1) exit => (bindO (loopD (stepDref13_with_n0 (a0, a1_0, a1_1)) FUEL ((0 : Int))) fun t5 => (bif inR t5 (List.length a0 + (1 : Nat)) then (bif Nat.ble (((0 : Nat) + List.length (List.take (Int.toNat t5) a0)) * (16 : Nat)) (140737488355328 : Nat) then (bif Nat.ble ((List.length (List.take (Int.toNat t5) a0) + List.length [(a1_0, a1_1)]) * (16 : Nat)) (140737488355328 : Nat) then (bindO (nodeDref13_with_n2 (a0, t5, a1_0, a1_1, List.take (Int.toNat t5) a0 ++ [(a1_0, a1_1)])) fun t45 => (bindO (nodeDref13_with_n3 (a0, t5, t45, List.take (Int.toNat t5) a0 ++ [(a1_0, a1_1)])) fun t5_2 => (bif inR t5_2 (List.length a0 + (1 : Nat)) then (bif Nat.ble ((List.length (List.take (Int.toNat t5) a0 ++ [(a1_0, a1_1)]) + List.length (List.drop (Int.toNat t5_2) a0)) * (16 : Nat)) (140737488355328 : Nat) then (exit (List.take (Int.toNat t5) a0 ++ [(a1_0, a1_1)] ++ List.drop (Int.toNat t5_2) a0)) else none) else none))) else none) else none) else none))
def fnDref13_with (a : Aref13_with) : Option Yref13_with := fnref13_with a some
theorem fnref13_with_nat (a : Aref13_with) (k : Yref13_with → Ans) : fnref13_with a k = bindO (fnDref13_with a) k := by
  obtain ⟨a0, a1_0, a1_1⟩ := a
  simp only [fnDref13_with, fnref13_with, bindO_cond, bindO_assoc, bindO_none, bindO_pure, bindO_elim, bindO_unP, bindO_empty]
def argsref13_with : Aref13_with → List AV × List AE.Obj := fun (a0, a1_0, a1_1) => ([AV.ro (Ty.st (Ty.pair (Ty.int IntKind.i64) (Ty.int IntKind.i64))) a0, AV.agg [AV.int IntKind.i64 a1_0, AV.int IntKind.i64 a1_1]], [])
def decAref13_with (l : List AV) (H : List AE.Obj) : Option Aref13_with := match l, H with
  | [AV.ro (Ty.st (Ty.pair (Ty.int IntKind.i64) (Ty.int IntKind.i64))) a0, AV.agg [AV.int IntKind.i64 a1_0, AV.int IntKind.i64 a1_1]], [] => some (a0, a1_0, a1_1)
  | _, _ => none
theorem decAref13_with_ok (l : List AV) (H : List AE.Obj) (a : Aref13_with) (h : decAref13_with l H = some a) : (l, H) = argsref13_with a := by
  unfold decAref13_with at h
  split at h
  · cases h; rfl
  · cases h
def outref13_with : Aref13_with → (AV → List AE.Obj → Ans) → Yref13_with → Ans := fun (a0, a1_0, a1_1) K => fun o0_y => K (AV.own 0) [Obj.arr (Ty.st (Ty.pair (Ty.int IntKind.i64) (Ty.int IntKind.i64))) o0_y]
theorem fnref13_with_ok (a : Aref13_with) (K : AV → List AE.Obj → Ans) : fnE Try.tab envref13_with noHint 0 70 29 Try.f29.ntmps Try.f29.results.toList annref13_with bref13_with (argsref13_with a).1 (argsref13_with a).2 K = fnref13_with a (outref13_with a K) := by kernel_rfl
def vFref13_with (a : Aref13_with) (K : AV → List AE.Obj → Ans) : Ans := bindO (fnDref13_with a) fun y => outref13_with a K y
def Fref13_with : List AV → List AE.Obj → (AV → List AE.Obj → Ans) → Ans := fun l H K => bindO (decAref13_with l H) fun a => vFref13_with a K
theorem Fref13_with_ok : FuncOk Try.prog 29 Fref13_with := func_mkD (hint := noHint) (d := 0) (n := 70) mixed tabOk envref13_withOk Try.func29 (bodySome (by kernel_rfl)) (by decide +kernel) annref13_with_ok decAref13_with_ok fnref13_with_ok fnref13_with_nat
--@ ref13_Shadow_Put
noncomputable def envref13_Shadow_Put : Env := [(29, .func Fref13_with)]
theorem envref13_Shadow_PutOk : EnvOk Try.prog envref13_Shadow_Put := EnvOk.cons Fref13_with_ok (EnvOk.nil)
noncomputable def bref13_Shadow_Put : Code := Try.f15.body.getD .skip
noncomputable def annref13_Shadow_Put : Ann := .none
theorem annref13_Shadow_Put_ok : AnnOk Try.prog 13 bref13_Shadow_Put annref13_Shadow_Put := (annOk_none _ _ _)
abbrev Aref13_Shadow_Put := (Int) × (Int) × (List (Int × Int)) × (List (Int × Int))
abbrev Yref13_Shadow_Put := (List (Int × Int))
def fnref13_Shadow_Put {β : Type} : Aref13_Shadow_Put → (Yref13_Shadow_Put → Option β) → Option β := fun (a1_0, a1_1, o1, o2) exit => (bindO (fnDref13_with (o2, a1_0, a1_1)) fun o0 => (exit (o0)))
def fnDref13_Shadow_Put (a : Aref13_Shadow_Put) : Option Yref13_Shadow_Put := fnref13_Shadow_Put a some
theorem fnref13_Shadow_Put_nat (a : Aref13_Shadow_Put) (k : Yref13_Shadow_Put → Ans) : fnref13_Shadow_Put a k = bindO (fnDref13_Shadow_Put a) k := by
  obtain ⟨a1_0, a1_1, o1, o2⟩ := a
  simp only [fnDref13_Shadow_Put, fnref13_Shadow_Put, bindO_cond, bindO_assoc, bindO_none, bindO_pure, bindO_elim, bindO_unP, bindO_empty]
def argsref13_Shadow_Put : Aref13_Shadow_Put → List AV × List AE.Obj := fun (a1_0, a1_1, o1, o2) => ([AV.ptr 0 0, AV.agg [AV.int IntKind.i64 a1_0, AV.int IntKind.i64 a1_1]], [AE.Obj.cells [AV.own 1, AV.own 2], Obj.arr (Ty.st (Ty.pair (Ty.int IntKind.i64) (Ty.int IntKind.i64))) o1, Obj.arr (Ty.st (Ty.pair (Ty.int IntKind.i64) (Ty.int IntKind.i64))) o2])
def decAref13_Shadow_Put (l : List AV) (H : List AE.Obj) : Option Aref13_Shadow_Put := match l, H with
  | [AV.ptr 0 0, AV.agg [AV.int IntKind.i64 a1_0, AV.int IntKind.i64 a1_1]], [AE.Obj.cells [AV.own 1, AV.own 2], Obj.arr (Ty.st (Ty.pair (Ty.int IntKind.i64) (Ty.int IntKind.i64))) o1, Obj.arr (Ty.st (Ty.pair (Ty.int IntKind.i64) (Ty.int IntKind.i64))) o2] => some (a1_0, a1_1, o1, o2)
  | _, _ => none
theorem decAref13_Shadow_Put_ok (l : List AV) (H : List AE.Obj) (a : Aref13_Shadow_Put) (h : decAref13_Shadow_Put l H = some a) : (l, H) = argsref13_Shadow_Put a := by
  unfold decAref13_Shadow_Put at h
  split at h
  · cases h; rfl
  · cases h
def outref13_Shadow_Put : Aref13_Shadow_Put → (AV → List AE.Obj → Ans) → Yref13_Shadow_Put → Ans := fun (a1_0, a1_1, o1, o2) K => fun o3_y => K (AV.tup []) [AE.Obj.cells [AV.own 1, AV.own 3], Obj.arr (Ty.st (Ty.pair (Ty.int IntKind.i64) (Ty.int IntKind.i64))) o1, Obj.dead, Obj.arr (Ty.st (Ty.pair (Ty.int IntKind.i64) (Ty.int IntKind.i64))) o3_y]
theorem fnref13_Shadow_Put_ok (a : Aref13_Shadow_Put) (K : AV → List AE.Obj → Ans) : fnE Try.tab envref13_Shadow_Put noHint 0 70 15 Try.f15.ntmps Try.f15.results.toList annref13_Shadow_Put bref13_Shadow_Put (argsref13_Shadow_Put a).1 (argsref13_Shadow_Put a).2 K = fnref13_Shadow_Put a (outref13_Shadow_Put a K) := by kernel_rfl
def vFref13_Shadow_Put (a : Aref13_Shadow_Put) (K : AV → List AE.Obj → Ans) : Ans := bindO (fnDref13_Shadow_Put a) fun y => outref13_Shadow_Put a K y
def Fref13_Shadow_Put : List AV → List AE.Obj → (AV → List AE.Obj → Ans) → Ans := fun l H K => bindO (decAref13_Shadow_Put l H) fun a => vFref13_Shadow_Put a K
theorem Fref13_Shadow_Put_ok : FuncOk Try.prog 15 Fref13_Shadow_Put := func_mkD (hint := noHint) (d := 0) (n := 70) mixed tabOk envref13_Shadow_PutOk Try.func15 (bodySome (by kernel_rfl)) (by decide +kernel) annref13_Shadow_Put_ok decAref13_Shadow_Put_ok fnref13_Shadow_Put_ok fnref13_Shadow_Put_nat
--@ ref13_Shadow_Keep
noncomputable def envref13_Shadow_Keep : Env := [(29, .func Fref13_with)]
theorem envref13_Shadow_KeepOk : EnvOk Try.prog envref13_Shadow_Keep := EnvOk.cons Fref13_with_ok (EnvOk.nil)
noncomputable def bref13_Shadow_Keep : Code := Try.f17.body.getD .skip
noncomputable def Lref13_Shadow_Keep_n0 : Code := codeAt [0, 1, 0, 0] bref13_Shadow_Keep
noncomputable def annLref13_Shadow_Keep_n0 : Ann := .at 3 [0, 2] (.loop .none)
theorem annLref13_Shadow_Keep_n0_ok : AnnOk Try.prog 30 (.loop Lref13_Shadow_Keep_n0) annLref13_Shadow_Keep_n0 := annOk_at (annOk_none _ _ _)
abbrev Iref13_Shadow_Keep_n0v1 := (List (Int × Int))
abbrev Yref13_Shadow_Keep_n0v1 := (List (Int × Int))
abbrev Vref13_Shadow_Keep_n0v1 := (Int) × (List (Int × Int))
def Sref13_Shadow_Keep_n0v1 : Iref13_Shadow_Keep_n0v1 → Vref13_Shadow_Keep_n0v1 → St := fun o2 (t2, o3) => { env := [(0, AV.ptr 0 0), (2, AV.int IntKind.i64 t2)], stk := [[(0, AV.ptr 0 0)]], H := [AE.Obj.cells [AV.own 3, AV.own 2], Obj.dead, Obj.arr (Ty.st (Ty.pair (Ty.int IntKind.i64) (Ty.int IntKind.i64))) o2, Obj.arr (Ty.st (Ty.pair (Ty.int IntKind.i64) (Ty.int IntKind.i64))) o3], blk := 69632 }
def decref13_Shadow_Keep_n0v1 (s : St) : Option (Iref13_Shadow_Keep_n0v1 × Vref13_Shadow_Keep_n0v1) := match s with
  | { env := [(0, AV.ptr 0 0), (2, AV.int IntKind.i64 t2)], stk := [[(0, AV.ptr 0 0)]], H := [AE.Obj.cells [AV.own 3, AV.own 2], Obj.dead, Obj.arr (Ty.st (Ty.pair (Ty.int IntKind.i64) (Ty.int IntKind.i64))) o2, Obj.arr (Ty.st (Ty.pair (Ty.int IntKind.i64) (Ty.int IntKind.i64))) o3], blk := 69632 } => some (o2, (t2, o3))
  | _ => none
theorem decref13_Shadow_Keep_n0v1_ok (s : St) (x : Iref13_Shadow_Keep_n0v1 × Vref13_Shadow_Keep_n0v1) (h : decref13_Shadow_Keep_n0v1 s = some x) : s = Sref13_Shadow_Keep_n0v1 x.1 x.2 := by
  unfold decref13_Shadow_Keep_n0v1 at h
  split at h
  · cases h; rfl
  · cases h
def outref13_Shadow_Keep_n0v1 : Iref13_Shadow_Keep_n0v1 → (Ex → St → Ans) → Yref13_Shadow_Keep_n0v1 → Ans := fun o2 K => fun o3_y => K (Ex.exit 0) { env := [(0, AV.ptr 0 0)], stk := [[(0, AV.ptr 0 0)]], H := [AE.Obj.cells [AV.own 3, AV.own 2], Obj.dead, Obj.arr (Ty.st (Ty.pair (Ty.int IntKind.i64) (Ty.int IntKind.i64))) o2, Obj.arr (Ty.st (Ty.pair (Ty.int IntKind.i64) (Ty.int IntKind.i64))) o3_y], blk := 69632 }
def stepref13_Shadow_Keep_n0v1 {β : Type} : Iref13_Shadow_Keep_n0v1 → Vref13_Shadow_Keep_n0v1 → (Vref13_Shadow_Keep_n0v1 → Option β) → (Yref13_Shadow_Keep_n0v1 → Option β) → Option β := fun o2 (t2, o3) next exit => (bif decide (t2 < (↑(List.length o2) : Int)) then (bif inR t2 (List.length o2) then (bindO (o2[Int.toNat t2]?) fun x => (bindO (fnDref13_with (o3, x.fst, x.snd)) fun o0 => (next (IntKind.wrap IntKind.i64 (t2 + (1 : Int)), o0)))) else none) else (exit (o3)))
def stepDref13_Shadow_Keep_n0v1 (i : Iref13_Shadow_Keep_n0v1) (v : Vref13_Shadow_Keep_n0v1) : Option (Vref13_Shadow_Keep_n0v1 ⊕ Yref13_Shadow_Keep_n0v1) := stepref13_Shadow_Keep_n0v1 i v (fun v => some (.inl v)) (fun y => some (.inr y))
theorem stepref13_Shadow_Keep_n0v1_nat (i : Iref13_Shadow_Keep_n0v1) (v : Vref13_Shadow_Keep_n0v1) (next : Vref13_Shadow_Keep_n0v1 → Ans) (exit : Yref13_Shadow_Keep_n0v1 → Ans) : stepref13_Shadow_Keep_n0v1 i v next exit = bindO (stepDref13_Shadow_Keep_n0v1 i v) (Sum.elim next exit) := by
  obtain z := i
  obtain ⟨t2, o3⟩ := v
  simp only [stepDref13_Shadow_Keep_n0v1, stepref13_Shadow_Keep_n0v1, bindO_cond, bindO_assoc, bindO_none, bindO_pure, bindO_elim, bindO_unP, bindO_empty, Sum.elim_inl, Sum.elim_inr]
theorem stepref13_Shadow_Keep_n0v1_ok (n : Nat) (i : Iref13_Shadow_Keep_n0v1) (v : Vref13_Shadow_Keep_n0v1) (K : Ex → St → Ans) : codeI Try.tab envref13_Shadow_Keep noHint (codeD Try.tab envref13_Shadow_Keep noHint 0 64) (n+1) 30 annLref13_Shadow_Keep_n0 (.loop Lref13_Shadow_Keep_n0) (weakP 3 (exk [0] [] [(0, [0])]) K) (Sref13_Shadow_Keep_n0v1 i v) = stepref13_Shadow_Keep_n0v1 i v (fun v' => codeI Try.tab envref13_Shadow_Keep noHint (codeD Try.tab envref13_Shadow_Keep noHint 0 64) n 30 annLref13_Shadow_Keep_n0 (.loop Lref13_Shadow_Keep_n0) (weakP 3 (exk [0] [] [(0, [0])]) K) (Sref13_Shadow_Keep_n0v1 i v')) (fun y => outref13_Shadow_Keep_n0v1 i K y) := by kernel_rfl
theorem GNref13_Shadow_Keep_n0v1_ok : CSum Try.prog 30 (.loop Lref13_Shadow_Keep_n0) (sumL decref13_Shadow_Keep_n0v1 stepDref13_Shadow_Keep_n0v1 outref13_Shadow_Keep_n0v1) := csum_loop mixed tabOk envref13_Shadow_KeepOk 3 (exk [0] [] [(0, [0])]) annLref13_Shadow_Keep_n0_ok decref13_Shadow_Keep_n0v1_ok stepref13_Shadow_Keep_n0v1_ok stepref13_Shadow_Keep_n0v1_nat
abbrev Iref13_Shadow_Keep_n0 := (List (Int × Int)) × (List (Int × Int))
abbrev Yref13_Shadow_Keep_n0 := ((List (Int × Int))) ⊕ (Unit)
def Sref13_Shadow_Keep_n0 : Iref13_Shadow_Keep_n0 → St := fun (o1, o2) => { env := [(0, AV.ptr 0 0), (2, AV.int IntKind.i64 (0))], stk := [[(0, AV.ptr 0 0)]], H := [AE.Obj.cells [AV.own 1, AV.own 2], Obj.arr (Ty.st (Ty.pair (Ty.int IntKind.i64) (Ty.int IntKind.i64))) o1, Obj.arr (Ty.st (Ty.pair (Ty.int IntKind.i64) (Ty.int IntKind.i64))) o2], blk := 69632 }
def decref13_Shadow_Keep_n0 (s : St) : Option Iref13_Shadow_Keep_n0 := match s with
  | { env := [(0, AV.ptr 0 0), (2, AV.int IntKind.i64 r0)], stk := [[(0, AV.ptr 0 0)]], H := [AE.Obj.cells [AV.own 1, AV.own 2], Obj.arr (Ty.st (Ty.pair (Ty.int IntKind.i64) (Ty.int IntKind.i64))) o1, Obj.arr (Ty.st (Ty.pair (Ty.int IntKind.i64) (Ty.int IntKind.i64))) o2], blk := 69632 } => cond (decide (r0 = 0)) (some (o1, o2)) none
  | _ => none
theorem decref13_Shadow_Keep_n0_ok (s : St) (x : Iref13_Shadow_Keep_n0) (h : decref13_Shadow_Keep_n0 s = some x) : s = Sref13_Shadow_Keep_n0 x := by
  unfold decref13_Shadow_Keep_n0 at h
  split at h
  · replace h := cond_noneO h; obtain ⟨hg, h⟩ := h; simp only [Bool.and_eq_true, decide_eq_true_eq] at hg; simp only [hg]; cases h; rfl
  · cases h
def outref13_Shadow_Keep_n0 : Iref13_Shadow_Keep_n0 → (Ex → St → Ans) → Yref13_Shadow_Keep_n0 → Ans := fun (o1, o2) K => (Sum.elim (fun o3_y => K (Ex.exit 0) { env := [(0, AV.ptr 0 0)], stk := [[(0, AV.ptr 0 0)]], H := [AE.Obj.cells [AV.own 3, AV.own 2], Obj.dead, Obj.arr (Ty.st (Ty.pair (Ty.int IntKind.i64) (Ty.int IntKind.i64))) o2, Obj.arr (Ty.st (Ty.pair (Ty.int IntKind.i64) (Ty.int IntKind.i64))) o3_y], blk := 69632 }) (fun _ => K (Ex.exit 0) { env := [(0, AV.ptr 0 0)], stk := [[(0, AV.ptr 0 0)]], H := [AE.Obj.cells [AV.own 1, AV.own 2], Obj.arr (Ty.st (Ty.pair (Ty.int IntKind.i64) (Ty.int IntKind.i64))) o1, Obj.arr (Ty.st (Ty.pair (Ty.int IntKind.i64) (Ty.int IntKind.i64))) o2], blk := 69632 }))
def noderef13_Shadow_Keep_n0 {β : Type} : Iref13_Shadow_Keep_n0 → (Yref13_Shadow_Keep_n0 → Option β) → Option β := fun (o1, o2) exit => (bif decide ((0 : Int) < (↑(List.length o2) : Int)) then (bif inR (0 : Int) (List.length o2) then (bindO (o2[(0 : Nat)]?) fun x => (bindO (fnDref13_with (o1, x.fst, x.snd)) fun o0 => (bindO (loopD (stepDref13_Shadow_Keep_n0v1 (o2)) FUEL ((1 : Int), o0)) fun o3 => (exit (Sum.inl (o3)))))) else none) else (exit (Sum.inr ())))
def nodeDref13_Shadow_Keep_n0 (i : Iref13_Shadow_Keep_n0) : Option Yref13_Shadow_Keep_n0 := noderef13_Shadow_Keep_n0 i some
theorem noderef13_Shadow_Keep_n0_nat (i : Iref13_Shadow_Keep_n0) (k : Yref13_Shadow_Keep_n0 → Ans) : noderef13_Shadow_Keep_n0 i k = bindO (nodeDref13_Shadow_Keep_n0 i) k := by
  obtain ⟨o1, o2⟩ := i
  simp only [nodeDref13_Shadow_Keep_n0, noderef13_Shadow_Keep_n0, bindO_cond, bindO_assoc, bindO_none, bindO_pure, bindO_elim, bindO_unP, bindO_empty]
theorem GPref13_Shadow_Keep_n0v1_ok : LSum Try.prog 30 Lref13_Shadow_Keep_n0 (sumL decref13_Shadow_Keep_n0v1 stepDref13_Shadow_Keep_n0v1 outref13_Shadow_Keep_n0v1) := lsum_loop mixed tabOk envref13_Shadow_KeepOk 3 (exk [0] [] [(0, [0])]) annLref13_Shadow_Keep_n0_ok decref13_Shadow_Keep_n0v1_ok stepref13_Shadow_Keep_n0v1_ok stepref13_Shadow_Keep_n0v1_nat
noncomputable def annPref13_Shadow_Keep_n0 : Ann := .peel 3 [0, 2] .none (sumL decref13_Shadow_Keep_n0v1 stepDref13_Shadow_Keep_n0v1 outref13_Shadow_Keep_n0v1)
theorem annPref13_Shadow_Keep_n0_ok : AnnOk Try.prog 30 (.loop Lref13_Shadow_Keep_n0) annPref13_Shadow_Keep_n0 := annOk_peel (annOk_none _ _ _) GPref13_Shadow_Keep_n0v1_ok
theorem noderef13_Shadow_Keep_n0_ok (i : Iref13_Shadow_Keep_n0) (K : Ex → St → Ans) : codeI Try.tab envref13_Shadow_Keep noHint (codeD Try.tab envref13_Shadow_Keep noHint 0 64) 70 30 annPref13_Shadow_Keep_n0 (.loop Lref13_Shadow_Keep_n0) (weakP 3 (exk [0] [] [(0, [0])]) K) (Sref13_Shadow_Keep_n0 i) = noderef13_Shadow_Keep_n0 i (outref13_Shadow_Keep_n0 i K) := by kernel_rfl
theorem GNref13_Shadow_Keep_n0_ok : CSum Try.prog 30 (.loop Lref13_Shadow_Keep_n0) (sumN decref13_Shadow_Keep_n0 nodeDref13_Shadow_Keep_n0 outref13_Shadow_Keep_n0) := csum_node mixed tabOk envref13_Shadow_KeepOk 3 (exk [0] [] [(0, [0])]) annPref13_Shadow_Keep_n0_ok decref13_Shadow_Keep_n0_ok noderef13_Shadow_Keep_n0_ok noderef13_Shadow_Keep_n0_nat
noncomputable def Gref13_Shadow_Keep_n0 : (Ex → St → Ans) → St → Ans := (altN decref13_Shadow_Keep_n0 (sumN decref13_Shadow_Keep_n0 nodeDref13_Shadow_Keep_n0 outref13_Shadow_Keep_n0) (sumL decref13_Shadow_Keep_n0v1 stepDref13_Shadow_Keep_n0v1 outref13_Shadow_Keep_n0v1))
theorem Gref13_Shadow_Keep_n0_ok : CSum Try.prog 30 (.loop Lref13_Shadow_Keep_n0) Gref13_Shadow_Keep_n0 := (csum_altN GNref13_Shadow_Keep_n0_ok GNref13_Shadow_Keep_n0v1_ok)
noncomputable def annref13_Shadow_Keep : Ann := (.seq (.seq .none (.block (.cut 3 [0, 2] Gref13_Shadow_Keep_n0))) .none)
theorem annref13_Shadow_Keep_ok : AnnOk Try.prog 30 bref13_Shadow_Keep annref13_Shadow_Keep := ⟨⟨(annOk_none _ _ _), Gref13_Shadow_Keep_n0_ok⟩, (annOk_none _ _ _)⟩
abbrev Aref13_Shadow_Keep := (List (Int × Int)) × (List (Int × Int))
abbrev Yref13_Shadow_Keep := ((List (Int × Int))) ⊕ (Unit)
def fnref13_Shadow_Keep {β : Type} : Aref13_Shadow_Keep → (Yref13_Shadow_Keep → Option β) → Option β := fun (o1, o2) exit => (bindO (nodeDref13_Shadow_Keep_n0 (o1, o2)) (Sum.elim (fun o3 => (exit (Sum.inl (o3)))) (fun _ => (exit (Sum.inr ())))))
def fnDref13_Shadow_Keep (a : Aref13_Shadow_Keep) : Option Yref13_Shadow_Keep := fnref13_Shadow_Keep a some
theorem fnref13_Shadow_Keep_nat (a : Aref13_Shadow_Keep) (k : Yref13_Shadow_Keep → Ans) : fnref13_Shadow_Keep a k = bindO (fnDref13_Shadow_Keep a) k := by
  obtain ⟨o1, o2⟩ := a
  simp only [fnDref13_Shadow_Keep, fnref13_Shadow_Keep, bindO_cond, bindO_assoc, bindO_none, bindO_pure, bindO_elim, bindO_unP, bindO_empty]
def argsref13_Shadow_Keep : Aref13_Shadow_Keep → List AV × List AE.Obj := fun (o1, o2) => ([AV.ptr 0 0], [AE.Obj.cells [AV.own 1, AV.own 2], Obj.arr (Ty.st (Ty.pair (Ty.int IntKind.i64) (Ty.int IntKind.i64))) o1, Obj.arr (Ty.st (Ty.pair (Ty.int IntKind.i64) (Ty.int IntKind.i64))) o2])
def decAref13_Shadow_Keep (l : List AV) (H : List AE.Obj) : Option Aref13_Shadow_Keep := match l, H with
  | [AV.ptr 0 0], [AE.Obj.cells [AV.own 1, AV.own 2], Obj.arr (Ty.st (Ty.pair (Ty.int IntKind.i64) (Ty.int IntKind.i64))) o1, Obj.arr (Ty.st (Ty.pair (Ty.int IntKind.i64) (Ty.int IntKind.i64))) o2] => some (o1, o2)
  | _, _ => none
theorem decAref13_Shadow_Keep_ok (l : List AV) (H : List AE.Obj) (a : Aref13_Shadow_Keep) (h : decAref13_Shadow_Keep l H = some a) : (l, H) = argsref13_Shadow_Keep a := by
  unfold decAref13_Shadow_Keep at h
  split at h
  · cases h; rfl
  · cases h
def outref13_Shadow_Keep : Aref13_Shadow_Keep → (AV → List AE.Obj → Ans) → Yref13_Shadow_Keep → Ans := fun (o1, o2) K => (Sum.elim (fun o3_y => K (AV.tup []) [AE.Obj.cells [AV.own 3, AV.own 4], Obj.dead, Obj.arr (Ty.st (Ty.pair (Ty.int IntKind.i64) (Ty.int IntKind.i64))) o2, Obj.arr (Ty.st (Ty.pair (Ty.int IntKind.i64) (Ty.int IntKind.i64))) o3_y, Obj.arr (Ty.st (Ty.pair (Ty.int IntKind.i64) (Ty.int IntKind.i64))) ([])]) (fun _ => K (AV.tup []) [AE.Obj.cells [AV.own 1, AV.own 3], Obj.arr (Ty.st (Ty.pair (Ty.int IntKind.i64) (Ty.int IntKind.i64))) o1, Obj.arr (Ty.st (Ty.pair (Ty.int IntKind.i64) (Ty.int IntKind.i64))) o2, Obj.arr (Ty.st (Ty.pair (Ty.int IntKind.i64) (Ty.int IntKind.i64))) ([])]))
theorem fnref13_Shadow_Keep_ok (a : Aref13_Shadow_Keep) (K : AV → List AE.Obj → Ans) : fnE Try.tab envref13_Shadow_Keep noHint 0 70 17 Try.f17.ntmps Try.f17.results.toList annref13_Shadow_Keep bref13_Shadow_Keep (argsref13_Shadow_Keep a).1 (argsref13_Shadow_Keep a).2 K = fnref13_Shadow_Keep a (outref13_Shadow_Keep a K) := by kernel_rfl
def vFref13_Shadow_Keep (a : Aref13_Shadow_Keep) (K : AV → List AE.Obj → Ans) : Ans := bindO (fnDref13_Shadow_Keep a) fun y => outref13_Shadow_Keep a K y
def Fref13_Shadow_Keep : List AV → List AE.Obj → (AV → List AE.Obj → Ans) → Ans := fun l H K => bindO (decAref13_Shadow_Keep l H) fun a => vFref13_Shadow_Keep a K
theorem Fref13_Shadow_Keep_ok : FuncOk Try.prog 17 Fref13_Shadow_Keep := func_mkD (hint := noHint) (d := 0) (n := 70) mixed tabOk envref13_Shadow_KeepOk Try.func17 (bodySome (by kernel_rfl)) (by decide +kernel) annref13_Shadow_Keep_ok decAref13_Shadow_Keep_ok fnref13_Shadow_Keep_ok fnref13_Shadow_Keep_nat
--@ shadow_Shadow_int_Clear
noncomputable def envshadow_Shadow_int_Clear : Env := []
theorem envshadow_Shadow_int_ClearOk : EnvOk Try.prog envshadow_Shadow_int_Clear := EnvOk.nil
noncomputable def bshadow_Shadow_int_Clear : Code := Try.f19.body.getD .skip
noncomputable def annshadow_Shadow_int_Clear : Ann := .none
theorem annshadow_Shadow_int_Clear_ok : AnnOk Try.prog 8 bshadow_Shadow_int_Clear annshadow_Shadow_int_Clear := (annOk_none _ _ _)
abbrev Ashadow_Shadow_int_Clear := (List (Int × Int)) × (List (Int × Int))
abbrev Yshadow_Shadow_int_Clear := Unit
def fnshadow_Shadow_int_Clear {β : Type} : Ashadow_Shadow_int_Clear → (Yshadow_Shadow_int_Clear → Option β) → Option β := fun (o1, o2) exit => (exit ())
def fnDshadow_Shadow_int_Clear (a : Ashadow_Shadow_int_Clear) : Option Yshadow_Shadow_int_Clear := fnshadow_Shadow_int_Clear a some
theorem fnshadow_Shadow_int_Clear_nat (a : Ashadow_Shadow_int_Clear) (k : Yshadow_Shadow_int_Clear → Ans) : fnshadow_Shadow_int_Clear a k = bindO (fnDshadow_Shadow_int_Clear a) k := by
  obtain ⟨o1, o2⟩ := a
  simp only [fnDshadow_Shadow_int_Clear, fnshadow_Shadow_int_Clear, bindO_cond, bindO_assoc, bindO_none, bindO_pure, bindO_elim, bindO_unP, bindO_empty]
def argsshadow_Shadow_int_Clear : Ashadow_Shadow_int_Clear → List AV × List AE.Obj := fun (o1, o2) => ([AV.ptr 0 0], [AE.Obj.cells [AV.map 1, AV.map 2], Obj.mp IntKind.i64 (Ty.int IntKind.i64) o1, Obj.mp IntKind.i64 (Ty.int IntKind.i64) o2])
def decAshadow_Shadow_int_Clear (l : List AV) (H : List AE.Obj) : Option Ashadow_Shadow_int_Clear := match l, H with
  | [AV.ptr 0 0], [AE.Obj.cells [AV.map 1, AV.map 2], Obj.mp IntKind.i64 (Ty.int IntKind.i64) o1, Obj.mp IntKind.i64 (Ty.int IntKind.i64) o2] => some (o1, o2)
  | _, _ => none
theorem decAshadow_Shadow_int_Clear_ok (l : List AV) (H : List AE.Obj) (a : Ashadow_Shadow_int_Clear) (h : decAshadow_Shadow_int_Clear l H = some a) : (l, H) = argsshadow_Shadow_int_Clear a := by
  unfold decAshadow_Shadow_int_Clear at h
  split at h
  · cases h; rfl
  · cases h
def outshadow_Shadow_int_Clear : Ashadow_Shadow_int_Clear → (AV → List AE.Obj → Ans) → Yshadow_Shadow_int_Clear → Ans := fun (o1, o2) K => fun _ => K (AV.tup []) [AE.Obj.cells [AV.map 3, AV.map 2], Obj.mp IntKind.i64 (Ty.int IntKind.i64) o1, Obj.mp IntKind.i64 (Ty.int IntKind.i64) o2, Obj.mp IntKind.i64 (Ty.int IntKind.i64) ([])]
theorem fnshadow_Shadow_int_Clear_ok (a : Ashadow_Shadow_int_Clear) (K : AV → List AE.Obj → Ans) : fnE Try.tab envshadow_Shadow_int_Clear noHint 0 70 19 Try.f19.ntmps Try.f19.results.toList annshadow_Shadow_int_Clear bshadow_Shadow_int_Clear (argsshadow_Shadow_int_Clear a).1 (argsshadow_Shadow_int_Clear a).2 K = fnshadow_Shadow_int_Clear a (outshadow_Shadow_int_Clear a K) := by kernel_rfl
def vFshadow_Shadow_int_Clear (a : Ashadow_Shadow_int_Clear) (K : AV → List AE.Obj → Ans) : Ans := bindO (fnDshadow_Shadow_int_Clear a) fun y => outshadow_Shadow_int_Clear a K y
def Fshadow_Shadow_int_Clear : List AV → List AE.Obj → (AV → List AE.Obj → Ans) → Ans := fun l H K => bindO (decAshadow_Shadow_int_Clear l H) fun a => vFshadow_Shadow_int_Clear a K
theorem Fshadow_Shadow_int_Clear_ok : FuncOk Try.prog 19 Fshadow_Shadow_int_Clear := func_mkD (hint := noHint) (d := 0) (n := 70) mixed tabOk envshadow_Shadow_int_ClearOk Try.func19 (bodySome (by kernel_rfl)) (by decide +kernel) annshadow_Shadow_int_Clear_ok decAshadow_Shadow_int_Clear_ok fnshadow_Shadow_int_Clear_ok fnshadow_Shadow_int_Clear_nat
--@ ref13_find
noncomputable def envref13_find : Env := []
theorem envref13_findOk : EnvOk Try.prog envref13_find := EnvOk.nil
noncomputable def bref13_find : Code := Try.f31.body.getD .skip
noncomputable def Lref13_find_n0 : Code := codeAt [1, 0, 1, 0, 0] bref13_find
noncomputable def annLref13_find_n0 : Ann := .at 0 [0, 1, 6] (.loop .none)
theorem annLref13_find_n0_ok : AnnOk Try.prog 25 (.loop Lref13_find_n0) annLref13_find_n0 := annOk_at (annOk_none _ _ _)
abbrev Iref13_find_n0 := (List (Int × Int)) × (Int)
abbrev Yref13_find_n0 := ((Int)) ⊕ (Unit)
abbrev Vref13_find_n0 := (Int)
def Sref13_find_n0 : Iref13_find_n0 → Vref13_find_n0 → St := fun (t0, t1) t6 => { env := [(0, AV.ro (Ty.st (Ty.pair (Ty.int IntKind.i64) (Ty.int IntKind.i64))) t0), (1, AV.int IntKind.i64 t1), (6, AV.int IntKind.i64 t6)], stk := [[]], H := [], blk := 126976 }
def decref13_find_n0 (s : St) : Option (Iref13_find_n0 × Vref13_find_n0) := match s with
  | { env := [(0, AV.ro (Ty.st (Ty.pair (Ty.int IntKind.i64) (Ty.int IntKind.i64))) t0), (1, AV.int IntKind.i64 t1), (6, AV.int IntKind.i64 t6)], stk := [[]], H := [], blk := 126976 } => some ((t0, t1), t6)
  | _ => none
theorem decref13_find_n0_ok (s : St) (x : Iref13_find_n0 × Vref13_find_n0) (h : decref13_find_n0 s = some x) : s = Sref13_find_n0 x.1 x.2 := by
  unfold decref13_find_n0 at h
  split at h
  · cases h; rfl
  · cases h
def outref13_find_n0 : Iref13_find_n0 → (Ex → St → Ans) → Yref13_find_n0 → Ans := fun (t0, t1) K => (Sum.elim (fun t4_y => K (Ex.ret) { env := [(4, AV.int IntKind.i64 t4_y), (5, AV.bool (true))], stk := [[]], H := [], blk := 126977 }) (fun _ => K (Ex.exit 0) { env := [], stk := [[]], H := [], blk := 126976 }))
def stepref13_find_n0 {β : Type} : Iref13_find_n0 → Vref13_find_n0 → (Vref13_find_n0 → Option β) → (Yref13_find_n0 → Option β) → Option β := fun (t0, t1) t6 next exit => (bif decide (t6 < (↑(List.length t0) : Int)) then (bindO (nth t0 t6) fun x => (bif x.fst == t1 then (bindO (nth t0 t6) fun x_2 => (exit (Sum.inl (x_2.snd)))) else (next (IntKind.wrap IntKind.i64 (t6 + (1 : Int)))))) else (exit (Sum.inr ())))
def stepDref13_find_n0 (i : Iref13_find_n0) (v : Vref13_find_n0) : Option (Vref13_find_n0 ⊕ Yref13_find_n0) := stepref13_find_n0 i v (fun v => some (.inl v)) (fun y => some (.inr y))
theorem stepref13_find_n0_nat (i : Iref13_find_n0) (v : Vref13_find_n0) (next : Vref13_find_n0 → Ans) (exit : Yref13_find_n0 → Ans) : stepref13_find_n0 i v next exit = bindO (stepDref13_find_n0 i v) (Sum.elim next exit) := by
  obtain ⟨t0, t1⟩ := i
  obtain z := v
  simp only [stepDref13_find_n0, stepref13_find_n0, bindO_cond, bindO_assoc, bindO_none, bindO_pure, bindO_elim, bindO_unP, bindO_empty, Sum.elim_inl, Sum.elim_inr]
theorem stepref13_find_n0_ok (n : Nat) (i : Iref13_find_n0) (v : Vref13_find_n0) (K : Ex → St → Ans) : codeI Try.tab envref13_find noHint (codeD Try.tab envref13_find noHint 0 64) (n+1) 25 annLref13_find_n0 (.loop Lref13_find_n0) (weakP 0 (exk [] [4, 5] [(0, [])]) K) (Sref13_find_n0 i v) = stepref13_find_n0 i v (fun v' => codeI Try.tab envref13_find noHint (codeD Try.tab envref13_find noHint 0 64) n 25 annLref13_find_n0 (.loop Lref13_find_n0) (weakP 0 (exk [] [4, 5] [(0, [])]) K) (Sref13_find_n0 i v')) (fun y => outref13_find_n0 i K y) := by kernel_rfl
theorem GNref13_find_n0_ok : CSum Try.prog 25 (.loop Lref13_find_n0) (sumL decref13_find_n0 stepDref13_find_n0 outref13_find_n0) := csum_loop mixed tabOk envref13_findOk 0 (exk [] [4, 5] [(0, [])]) annLref13_find_n0_ok decref13_find_n0_ok stepref13_find_n0_ok stepref13_find_n0_nat
noncomputable def Gref13_find_n0 : (Ex → St → Ans) → St → Ans := (sumL decref13_find_n0 stepDref13_find_n0 outref13_find_n0)
theorem Gref13_find_n0_ok : CSum Try.prog 25 (.loop Lref13_find_n0) Gref13_find_n0 := GNref13_find_n0_ok
noncomputable def annref13_find : Ann := (.seq .none (.seq (.seq .none (.block (.cut 0 [0, 1, 6] Gref13_find_n0))) .none))
theorem annref13_find_ok : AnnOk Try.prog 25 bref13_find annref13_find := ⟨(annOk_none _ _ _), ⟨⟨(annOk_none _ _ _), Gref13_find_n0_ok⟩, (annOk_none _ _ _)⟩⟩
abbrev Aref13_find := (List (Int × Int)) × (Int)
abbrev Yref13_find := (Int) × (Bool)
def fnref13_find {β : Type} : Aref13_find → (Yref13_find → Option β) → Option β := fun (a0, a1) exit => (bindO (loopD (stepDref13_find_n0 (a0, a1)) FUEL ((0 : Int))) (Sum.elim (fun t4 => (exit (t4, true))) (fun _ => (exit ((0 : Int), false)))))
def fnDref13_find (a : Aref13_find) : Option Yref13_find := fnref13_find a some
theorem fnref13_find_nat (a : Aref13_find) (k : Yref13_find → Ans) : fnref13_find a k = bindO (fnDref13_find a) k := by
  obtain ⟨a0, a1⟩ := a
  simp only [fnDref13_find, fnref13_find, bindO_cond, bindO_assoc, bindO_none, bindO_pure, bindO_elim, bindO_unP, bindO_empty]
def argsref13_find : Aref13_find → List AV := fun (a0, a1) => [AV.ro (Ty.st (Ty.pair (Ty.int IntKind.i64) (Ty.int IntKind.i64))) a0, AV.int IntKind.i64 a1]
def decAref13_find (l : List AV) : Option Aref13_find := match l with
  | [AV.ro (Ty.st (Ty.pair (Ty.int IntKind.i64) (Ty.int IntKind.i64))) a0, AV.int IntKind.i64 a1] => some (a0, a1)
  | _ => none
theorem decAref13_find_ok (l : List AV) (a : Aref13_find) (h : decAref13_find l = some a) : l = argsref13_find a := by
  unfold decAref13_find at h
  split at h
  · cases h; rfl
  · cases h
def rendref13_find : Aref13_find → Yref13_find → AV := fun (a0, a1) => unP fun r_0_y r_1_y => AV.tup [AV.int IntKind.i64 r_0_y, AV.bool r_1_y]
theorem rendref13_find_ok : ∀ (a : Aref13_find) (y : Yref13_find), (rendref13_find a y).closed1 = true := by
  rintro ⟨a0, a1⟩ y <;> first | rfl | exact Empty.elim y
theorem fnref13_find_ok (a : Aref13_find) : fnE Try.tab envref13_find noHint 0 70 31 Try.f31.ntmps Try.f31.results.toList annref13_find bref13_find (argsref13_find a) [] (fun v _ => some (v, [])) = fnref13_find a (fun y => some (rendref13_find a y, [])) := by kernel_rfl
def vFref13_find (a : Aref13_find) (K : AV → Ans) : Ans := bindO (fnDref13_find a) fun y => K (rendref13_find a y)
def Fref13_find : List AV → (AV → Ans) → Ans := fun l K => bindO (decAref13_find l) fun a => vFref13_find a K
theorem Fref13_find_ok : PureOk Try.prog 31 Fref13_find := pure_mkD (hint := noHint) (d := 0) (n := 70) mixed tabOk envref13_findOk Try.func31 (bodySome (by kernel_rfl)) (by decide +kernel) annref13_find_ok decAref13_find_ok fnref13_find_ok fnref13_find_nat rendref13_find_ok
--@ ref13_Shadow_Get
noncomputable def envref13_Shadow_Get : Env := [(31, .pure Fref13_find)]
theorem envref13_Shadow_GetOk : EnvOk Try.prog envref13_Shadow_Get := EnvOk.cons Fref13_find_ok (EnvOk.nil)
noncomputable def bref13_Shadow_Get : Code := Try.f21.body.getD .skip
noncomputable def annref13_Shadow_Get : Ann := .none
theorem annref13_Shadow_Get_ok : AnnOk Try.prog 27 bref13_Shadow_Get annref13_Shadow_Get := (annOk_none _ _ _)
abbrev Aref13_Shadow_Get := (Int) × (List (Int × Int)) × (List (Int × Int))
abbrev Yref13_Shadow_Get := (Int) × (Bool)
def fnref13_Shadow_Get {β : Type} : Aref13_Shadow_Get → (Yref13_Shadow_Get → Option β) → Option β := fun (a1, o1, o2) exit => (bindO (fnDref13_find (o2, a1)) (unP fun r_0 r_1 => (bif r_1 then (exit (r_0, true)) else (bindO (fnDref13_find (o1, a1)) (unP fun r_0_2 r_1_2 => (exit (r_0_2, r_1_2)))))))
def fnDref13_Shadow_Get (a : Aref13_Shadow_Get) : Option Yref13_Shadow_Get := fnref13_Shadow_Get a some
theorem fnref13_Shadow_Get_nat (a : Aref13_Shadow_Get) (k : Yref13_Shadow_Get → Ans) : fnref13_Shadow_Get a k = bindO (fnDref13_Shadow_Get a) k := by
  obtain ⟨a1, o1, o2⟩ := a
  simp only [fnDref13_Shadow_Get, fnref13_Shadow_Get, bindO_cond, bindO_assoc, bindO_none, bindO_pure, bindO_elim, bindO_unP, bindO_empty]
def argsref13_Shadow_Get : Aref13_Shadow_Get → List AV × List AE.Obj := fun (a1, o1, o2) => ([AV.ptr 0 0, AV.int IntKind.i64 a1], [AE.Obj.cells [AV.own 1, AV.own 2], Obj.arr (Ty.st (Ty.pair (Ty.int IntKind.i64) (Ty.int IntKind.i64))) o1, Obj.arr (Ty.st (Ty.pair (Ty.int IntKind.i64) (Ty.int IntKind.i64))) o2])
def decAref13_Shadow_Get (l : List AV) (H : List AE.Obj) : Option Aref13_Shadow_Get := match l, H with
  | [AV.ptr 0 0, AV.int IntKind.i64 a1], [AE.Obj.cells [AV.own 1, AV.own 2], Obj.arr (Ty.st (Ty.pair (Ty.int IntKind.i64) (Ty.int IntKind.i64))) o1, Obj.arr (Ty.st (Ty.pair (Ty.int IntKind.i64) (Ty.int IntKind.i64))) o2] => some (a1, o1, o2)
  | _, _ => none
theorem decAref13_Shadow_Get_ok (l : List AV) (H : List AE.Obj) (a : Aref13_Shadow_Get) (h : decAref13_Shadow_Get l H = some a) : (l, H) = argsref13_Shadow_Get a := by
  unfold decAref13_Shadow_Get at h
  split at h
  · cases h; rfl
  · cases h
def outref13_Shadow_Get : Aref13_Shadow_Get → (AV → List AE.Obj → Ans) → Yref13_Shadow_Get → Ans := fun (a1, o1, o2) K => unP fun r_0_y r_1_y => K (AV.tup [AV.int IntKind.i64 r_0_y, AV.bool r_1_y]) [AE.Obj.cells [AV.own 1, AV.own 2], Obj.arr (Ty.st (Ty.pair (Ty.int IntKind.i64) (Ty.int IntKind.i64))) o1, Obj.arr (Ty.st (Ty.pair (Ty.int IntKind.i64) (Ty.int IntKind.i64))) o2]
theorem fnref13_Shadow_Get_ok (a : Aref13_Shadow_Get) (K : AV → List AE.Obj → Ans) : fnE Try.tab envref13_Shadow_Get noHint 0 70 21 Try.f21.ntmps Try.f21.results.toList annref13_Shadow_Get bref13_Shadow_Get (argsref13_Shadow_Get a).1 (argsref13_Shadow_Get a).2 K = fnref13_Shadow_Get a (outref13_Shadow_Get a K) := by kernel_rfl
def vFref13_Shadow_Get (a : Aref13_Shadow_Get) (K : AV → List AE.Obj → Ans) : Ans := bindO (fnDref13_Shadow_Get a) fun y => outref13_Shadow_Get a K y
def Fref13_Shadow_Get : List AV → List AE.Obj → (AV → List AE.Obj → Ans) → Ans := fun l H K => bindO (decAref13_Shadow_Get l H) fun a => vFref13_Shadow_Get a K
theorem Fref13_Shadow_Get_ok : FuncOk Try.prog 21 Fref13_Shadow_Get := func_mkD (hint := noHint) (d := 0) (n := 70) mixed tabOk envref13_Shadow_GetOk Try.func21 (bodySome (by kernel_rfl)) (by decide +kernel) annref13_Shadow_Get_ok decAref13_Shadow_Get_ok fnref13_Shadow_Get_ok fnref13_Shadow_Get_nat
--@ shadow_Shadow_int_Fresh
noncomputable def envshadow_Shadow_int_Fresh : Env := [(30, .func Fshadow_layer_int_each)]
theorem envshadow_Shadow_int_FreshOk : EnvOk Try.prog envshadow_Shadow_int_Fresh := EnvOk.cons Fshadow_layer_int_each_ok (EnvOk.nil)
noncomputable def bshadow_Shadow_int_Fresh : Code := Try.f24.body.getD .skip
noncomputable def annshadow_Shadow_int_Fresh : Ann := .none
theorem annshadow_Shadow_int_Fresh_ok : AnnOk Try.prog 11 bshadow_Shadow_int_Fresh annshadow_Shadow_int_Fresh := (annOk_none _ _ _)
abbrev Ashadow_Shadow_int_Fresh := (List (Int × Int)) × (List (Int × Int))
abbrev Yshadow_Shadow_int_Fresh := Unit
def fnshadow_Shadow_int_Fresh {β : Type} : Ashadow_Shadow_int_Fresh → (Yshadow_Shadow_int_Fresh → Option β) → Option β := fun (o1, o2) exit => (bindO (fnDshadow_layer_int_each (o2)) fun _ => (exit ()))
def fnDshadow_Shadow_int_Fresh (a : Ashadow_Shadow_int_Fresh) : Option Yshadow_Shadow_int_Fresh := fnshadow_Shadow_int_Fresh a some
theorem fnshadow_Shadow_int_Fresh_nat (a : Ashadow_Shadow_int_Fresh) (k : Yshadow_Shadow_int_Fresh → Ans) : fnshadow_Shadow_int_Fresh a k = bindO (fnDshadow_Shadow_int_Fresh a) k := by
  obtain ⟨o1, o2⟩ := a
  simp only [fnDshadow_Shadow_int_Fresh, fnshadow_Shadow_int_Fresh, bindO_cond, bindO_assoc, bindO_none, bindO_pure, bindO_elim, bindO_unP, bindO_empty]
def argsshadow_Shadow_int_Fresh : Ashadow_Shadow_int_Fresh → List AV × List AE.Obj := fun (o1, o2) => ([AV.ptr 0 0], [AE.Obj.cells [AV.map 1, AV.map 2], Obj.mp IntKind.i64 (Ty.int IntKind.i64) o1, Obj.mp IntKind.i64 (Ty.int IntKind.i64) o2])
def decAshadow_Shadow_int_Fresh (l : List AV) (H : List AE.Obj) : Option Ashadow_Shadow_int_Fresh := match l, H with
  | [AV.ptr 0 0], [AE.Obj.cells [AV.map 1, AV.map 2], Obj.mp IntKind.i64 (Ty.int IntKind.i64) o1, Obj.mp IntKind.i64 (Ty.int IntKind.i64) o2] => some (o1, o2)
  | _, _ => none
theorem decAshadow_Shadow_int_Fresh_ok (l : List AV) (H : List AE.Obj) (a : Ashadow_Shadow_int_Fresh) (h : decAshadow_Shadow_int_Fresh l H = some a) : (l, H) = argsshadow_Shadow_int_Fresh a := by
  unfold decAshadow_Shadow_int_Fresh at h
  split at h
  · cases h; rfl
  · cases h
def outshadow_Shadow_int_Fresh : Ashadow_Shadow_int_Fresh → (AV → List AE.Obj → Ans) → Yshadow_Shadow_int_Fresh → Ans := fun (o1, o2) K => fun _ => K (AV.fn (Fn.func 35) [] [AV.ptr 3 0]) [AE.Obj.cells [AV.map 1, AV.map 2], Obj.mp IntKind.i64 (Ty.int IntKind.i64) o1, Obj.mp IntKind.i64 (Ty.int IntKind.i64) o2, AE.Obj.cells [AV.map 2]]
theorem fnshadow_Shadow_int_Fresh_ok (a : Ashadow_Shadow_int_Fresh) (K : AV → List AE.Obj → Ans) : fnE Try.tab envshadow_Shadow_int_Fresh noHint 0 70 24 Try.f24.ntmps Try.f24.results.toList annshadow_Shadow_int_Fresh bshadow_Shadow_int_Fresh (argsshadow_Shadow_int_Fresh a).1 (argsshadow_Shadow_int_Fresh a).2 K = fnshadow_Shadow_int_Fresh a (outshadow_Shadow_int_Fresh a K) := by kernel_rfl
def vFshadow_Shadow_int_Fresh (a : Ashadow_Shadow_int_Fresh) (K : AV → List AE.Obj → Ans) : Ans := bindO (fnDshadow_Shadow_int_Fresh a) fun y => outshadow_Shadow_int_Fresh a K y
def Fshadow_Shadow_int_Fresh : List AV → List AE.Obj → (AV → List AE.Obj → Ans) → Ans := fun l H K => bindO (decAshadow_Shadow_int_Fresh l H) fun a => vFshadow_Shadow_int_Fresh a K
theorem Fshadow_Shadow_int_Fresh_ok : FuncOk Try.prog 24 Fshadow_Shadow_int_Fresh := func_mkD (hint := noHint) (d := 0) (n := 70) mixed tabOk envshadow_Shadow_int_FreshOk Try.func24 (bodySome (by kernel_rfl)) (by decide +kernel) annshadow_Shadow_int_Fresh_ok decAshadow_Shadow_int_Fresh_ok fnshadow_Shadow_int_Fresh_ok fnshadow_Shadow_int_Fresh_nat
--@ law13_same
noncomputable def envlaw13_same : Env := [(35, .func Feach_same)]
theorem envlaw13_sameOk : EnvOk Try.prog envlaw13_same := EnvOk.cons Feach_same_ok (EnvOk.nil)
noncomputable def blaw13_same : Code := Try.f23.body.getD .skip
noncomputable def Llaw13_same_n0 : Code := codeAt [1, 1, 1, 1, 0] blaw13_same
noncomputable def annLlaw13_same_n0 : Ann := .none
theorem annLlaw13_same_n0_ok : AnnOk Try.prog 22 Llaw13_same_n0 annLlaw13_same_n0 := (annOk_none _ _ _)
abbrev Ilaw13_same_n0 := (List (Int × Int)) × (List (Int × Int)) × (Int) × (Int) × (Bool)
abbrev Ylaw13_same_n0 := (Bool)
def Slaw13_same_n0 : Ilaw13_same_n0 → St := fun (o1, o2_0, o3_0, o4_0, o5_0) => { env := [(4, AV.ptr 2 0), (5, AV.ptr 3 0), (7, AV.ptr 4 0), (8, AV.ptr 5 0)], stk := [[(0, AV.ptr 0 0), (1, AV.map 1)]], H := [AE.Obj.cells [AV.map 1], Obj.mp IntKind.i64 (Ty.int IntKind.i64) o1, AE.Obj.cells [AV.ro (Ty.st (Ty.pair (Ty.int IntKind.i64) (Ty.int IntKind.i64))) o2_0], AE.Obj.cells [AV.int IntKind.i64 o3_0], AE.Obj.cells [AV.int IntKind.i64 o4_0], AE.Obj.cells [AV.bool o5_0]], blk := 94208 }
def declaw13_same_n0 (s : St) : Option Ilaw13_same_n0 := match s with
  | { env := [(4, AV.ptr 2 0), (5, AV.ptr 3 0), (7, AV.ptr 4 0), (8, AV.ptr 5 0)], stk := [[(0, AV.ptr 0 0), (1, AV.map 1)]], H := [AE.Obj.cells [AV.map 1], Obj.mp IntKind.i64 (Ty.int IntKind.i64) o1, AE.Obj.cells [AV.ro (Ty.st (Ty.pair (Ty.int IntKind.i64) (Ty.int IntKind.i64))) o2_0], AE.Obj.cells [AV.int IntKind.i64 o3_0], AE.Obj.cells [AV.int IntKind.i64 o4_0], AE.Obj.cells [AV.bool o5_0]], blk := 94208 } => some (o1, o2_0, o3_0, o4_0, o5_0)
  | _ => none
theorem declaw13_same_n0_ok (s : St) (x : Ilaw13_same_n0) (h : declaw13_same_n0 s = some x) : s = Slaw13_same_n0 x := by
  unfold declaw13_same_n0 at h
  split at h
  · cases h; rfl
  · cases h
def outlaw13_same_n0 : Ilaw13_same_n0 → (Ex → St → Ans) → Ylaw13_same_n0 → Ans := fun (o1, o2_0, o3_0, o4_0, o5_0) K => fun t6_y => K (Ex.norm) { env := [(6, AV.bool t6_y)], stk := [[(0, AV.ptr 0 0), (1, AV.map 1)]], H := [AE.Obj.cells [AV.map 1], Obj.mp IntKind.i64 (Ty.int IntKind.i64) o1], blk := 94208 }
def nodelaw13_same_n0 {β : Type} : Ilaw13_same_n0 → (Ylaw13_same_n0 → Option β) → Option β := fun (o1, o2_0, o3_0, o4_0, o5_0) exit => (bif o5_0 then (exit (o4_0 == if (if (1 : Int) > o3_0 then (1 : Int) else o3_0) < (↑(List.length o2_0) : Int) then if (1 : Int) > o3_0 then (1 : Int) else o3_0 else (↑(List.length o2_0) : Int))) else (exit (false)))
def nodeDlaw13_same_n0 (i : Ilaw13_same_n0) : Option Ylaw13_same_n0 := nodelaw13_same_n0 i some
theorem nodelaw13_same_n0_nat (i : Ilaw13_same_n0) (k : Ylaw13_same_n0 → Ans) : nodelaw13_same_n0 i k = bindO (nodeDlaw13_same_n0 i) k := by
  obtain ⟨o1, o2_0, o3_0, o4_0, o5_0⟩ := i
  simp only [nodeDlaw13_same_n0, nodelaw13_same_n0, bindO_cond, bindO_assoc, bindO_none, bindO_pure, bindO_elim, bindO_unP, bindO_empty]
theorem nodelaw13_same_n0_ok (i : Ilaw13_same_n0) (K : Ex → St → Ans) : codeI Try.tab envlaw13_same noHint (codeD Try.tab envlaw13_same noHint 0 64) 70 22 annLlaw13_same_n0 Llaw13_same_n0 (weakP 2 (exk [6] [6] []) K) (Slaw13_same_n0 i) = nodelaw13_same_n0 i (outlaw13_same_n0 i K) := by kernel_rfl
theorem GNlaw13_same_n0_ok : CSum Try.prog 22 Llaw13_same_n0 (sumN declaw13_same_n0 nodeDlaw13_same_n0 outlaw13_same_n0) := csum_node mixed tabOk envlaw13_sameOk 2 (exk [6] [6] []) annLlaw13_same_n0_ok declaw13_same_n0_ok nodelaw13_same_n0_ok nodelaw13_same_n0_nat
noncomputable def Glaw13_same_n0 : (Ex → St → Ans) → St → Ans := (sumN declaw13_same_n0 nodeDlaw13_same_n0 outlaw13_same_n0)
theorem Glaw13_same_n0_ok : CSum Try.prog 22 Llaw13_same_n0 Glaw13_same_n0 := GNlaw13_same_n0_ok
noncomputable def annlaw13_same : Ann := (.seq .none (.seq .none (.seq .none (.seq .none (.seq (.cut 2 [4, 5, 7, 8] Glaw13_same_n0) .none)))))
theorem annlaw13_same_ok : AnnOk Try.prog 22 blaw13_same annlaw13_same := ⟨(annOk_none _ _ _), ⟨(annOk_none _ _ _), ⟨(annOk_none _ _ _), ⟨(annOk_none _ _ _), ⟨Glaw13_same_n0_ok, (annOk_none _ _ _)⟩⟩⟩⟩⟩
abbrev Alaw13_same := (List (Int × Int)) × (Int) × (List (Int × Int))
abbrev Ylaw13_same := (Bool) × (List (Int × Int))
def fnlaw13_same {β : Type} : Alaw13_same → (Ylaw13_same → Option β) → Option β := fun (a1, a2, o1) exit => (bindO (fnDeach_same (true, (0 : Int), a1, a2, o1)) (unP fun o0_0 => unP fun o1_0 => unP fun o2_0 => unP fun o3_0 o5 => (bindO (nodeDlaw13_same_n0 (o5, o2_0, o3_0, o1_0, o0_0)) fun t6 => (exit (t6, o5)))))
def fnDlaw13_same (a : Alaw13_same) : Option Ylaw13_same := fnlaw13_same a some
theorem fnlaw13_same_nat (a : Alaw13_same) (k : Ylaw13_same → Ans) : fnlaw13_same a k = bindO (fnDlaw13_same a) k := by
  obtain ⟨a1, a2, o1⟩ := a
  simp only [fnDlaw13_same, fnlaw13_same, bindO_cond, bindO_assoc, bindO_none, bindO_pure, bindO_elim, bindO_unP, bindO_empty]
def argslaw13_same : Alaw13_same → List AV × List AE.Obj := fun (a1, a2, o1) => ([AV.fn (Fn.func 35) [] [AV.ptr 0 0], AV.ro (Ty.st (Ty.pair (Ty.int IntKind.i64) (Ty.int IntKind.i64))) a1, AV.int IntKind.i64 a2], [AE.Obj.cells [AV.map 1], Obj.mp IntKind.i64 (Ty.int IntKind.i64) o1])
def decAlaw13_same (l : List AV) (H : List AE.Obj) : Option Alaw13_same := match l, H with
  | [AV.fn (Fn.func 35) [] [AV.ptr 0 0], AV.ro (Ty.st (Ty.pair (Ty.int IntKind.i64) (Ty.int IntKind.i64))) a1, AV.int IntKind.i64 a2], [AE.Obj.cells [AV.map 1], Obj.mp IntKind.i64 (Ty.int IntKind.i64) o1] => some (a1, a2, o1)
  | _, _ => none
theorem decAlaw13_same_ok (l : List AV) (H : List AE.Obj) (a : Alaw13_same) (h : decAlaw13_same l H = some a) : (l, H) = argslaw13_same a := by
  unfold decAlaw13_same at h
  split at h
  · cases h; rfl
  · cases h
def outlaw13_same : Alaw13_same → (AV → List AE.Obj → Ans) → Ylaw13_same → Ans := fun (a1, a2, o1) K => unP fun r_y o1_y => K (AV.bool r_y) [AE.Obj.cells [AV.map 1], Obj.mp IntKind.i64 (Ty.int IntKind.i64) o1_y]
theorem fnlaw13_same_ok (a : Alaw13_same) (K : AV → List AE.Obj → Ans) : fnE Try.tab envlaw13_same noHint 0 70 23 Try.f23.ntmps Try.f23.results.toList annlaw13_same blaw13_same (argslaw13_same a).1 (argslaw13_same a).2 K = fnlaw13_same a (outlaw13_same a K) := by kernel_rfl
def vFlaw13_same (a : Alaw13_same) (K : AV → List AE.Obj → Ans) : Ans := bindO (fnDlaw13_same a) fun y => outlaw13_same a K y
def Flaw13_same : List AV → List AE.Obj → (AV → List AE.Obj → Ans) → Ans := fun l H K => bindO (decAlaw13_same l H) fun a => vFlaw13_same a K
theorem Flaw13_same_ok : FuncOk Try.prog 23 Flaw13_same := func_mkD (hint := noHint) (d := 0) (n := 70) mixed tabOk envlaw13_sameOk Try.func23 (bodySome (by kernel_rfl)) (by decide +kernel) annlaw13_same_ok decAlaw13_same_ok fnlaw13_same_ok fnlaw13_same_nat
--@ shadow_Shadow_int_Kept
noncomputable def envshadow_Shadow_int_Kept : Env := [(30, .func Fshadow_layer_int_each)]
theorem envshadow_Shadow_int_KeptOk : EnvOk Try.prog envshadow_Shadow_int_Kept := EnvOk.cons Fshadow_layer_int_each_ok (EnvOk.nil)
noncomputable def bshadow_Shadow_int_Kept : Code := Try.f25.body.getD .skip
noncomputable def annshadow_Shadow_int_Kept : Ann := .none
theorem annshadow_Shadow_int_Kept_ok : AnnOk Try.prog 11 bshadow_Shadow_int_Kept annshadow_Shadow_int_Kept := (annOk_none _ _ _)
abbrev Ashadow_Shadow_int_Kept := (List (Int × Int)) × (List (Int × Int))
abbrev Yshadow_Shadow_int_Kept := Unit
def fnshadow_Shadow_int_Kept {β : Type} : Ashadow_Shadow_int_Kept → (Yshadow_Shadow_int_Kept → Option β) → Option β := fun (o1, o2) exit => (bindO (fnDshadow_layer_int_each (o1)) fun _ => (exit ()))
def fnDshadow_Shadow_int_Kept (a : Ashadow_Shadow_int_Kept) : Option Yshadow_Shadow_int_Kept := fnshadow_Shadow_int_Kept a some
theorem fnshadow_Shadow_int_Kept_nat (a : Ashadow_Shadow_int_Kept) (k : Yshadow_Shadow_int_Kept → Ans) : fnshadow_Shadow_int_Kept a k = bindO (fnDshadow_Shadow_int_Kept a) k := by
  obtain ⟨o1, o2⟩ := a
  simp only [fnDshadow_Shadow_int_Kept, fnshadow_Shadow_int_Kept, bindO_cond, bindO_assoc, bindO_none, bindO_pure, bindO_elim, bindO_unP, bindO_empty]
def argsshadow_Shadow_int_Kept : Ashadow_Shadow_int_Kept → List AV × List AE.Obj := fun (o1, o2) => ([AV.ptr 0 0], [AE.Obj.cells [AV.map 1, AV.map 2], Obj.mp IntKind.i64 (Ty.int IntKind.i64) o1, Obj.mp IntKind.i64 (Ty.int IntKind.i64) o2])
def decAshadow_Shadow_int_Kept (l : List AV) (H : List AE.Obj) : Option Ashadow_Shadow_int_Kept := match l, H with
  | [AV.ptr 0 0], [AE.Obj.cells [AV.map 1, AV.map 2], Obj.mp IntKind.i64 (Ty.int IntKind.i64) o1, Obj.mp IntKind.i64 (Ty.int IntKind.i64) o2] => some (o1, o2)
  | _, _ => none
theorem decAshadow_Shadow_int_Kept_ok (l : List AV) (H : List AE.Obj) (a : Ashadow_Shadow_int_Kept) (h : decAshadow_Shadow_int_Kept l H = some a) : (l, H) = argsshadow_Shadow_int_Kept a := by
  unfold decAshadow_Shadow_int_Kept at h
  split at h
  · cases h; rfl
  · cases h
def outshadow_Shadow_int_Kept : Ashadow_Shadow_int_Kept → (AV → List AE.Obj → Ans) → Yshadow_Shadow_int_Kept → Ans := fun (o1, o2) K => fun _ => K (AV.fn (Fn.func 35) [] [AV.ptr 3 0]) [AE.Obj.cells [AV.map 1, AV.map 2], Obj.mp IntKind.i64 (Ty.int IntKind.i64) o1, Obj.mp IntKind.i64 (Ty.int IntKind.i64) o2, AE.Obj.cells [AV.map 1]]
theorem fnshadow_Shadow_int_Kept_ok (a : Ashadow_Shadow_int_Kept) (K : AV → List AE.Obj → Ans) : fnE Try.tab envshadow_Shadow_int_Kept noHint 0 70 25 Try.f25.ntmps Try.f25.results.toList annshadow_Shadow_int_Kept bshadow_Shadow_int_Kept (argsshadow_Shadow_int_Kept a).1 (argsshadow_Shadow_int_Kept a).2 K = fnshadow_Shadow_int_Kept a (outshadow_Shadow_int_Kept a K) := by kernel_rfl
def vFshadow_Shadow_int_Kept (a : Ashadow_Shadow_int_Kept) (K : AV → List AE.Obj → Ans) : Ans := bindO (fnDshadow_Shadow_int_Kept a) fun y => outshadow_Shadow_int_Kept a K y
def Fshadow_Shadow_int_Kept : List AV → List AE.Obj → (AV → List AE.Obj → Ans) → Ans := fun l H K => bindO (decAshadow_Shadow_int_Kept l H) fun a => vFshadow_Shadow_int_Kept a K
theorem Fshadow_Shadow_int_Kept_ok : FuncOk Try.prog 25 Fshadow_Shadow_int_Kept := func_mkD (hint := noHint) (d := 0) (n := 70) mixed tabOk envshadow_Shadow_int_KeptOk Try.func25 (bodySome (by kernel_rfl)) (by decide +kernel) annshadow_Shadow_int_Kept_ok decAshadow_Shadow_int_Kept_ok fnshadow_Shadow_int_Kept_ok fnshadow_Shadow_int_Kept_nat
--@ law13_ShadowDoes
noncomputable def envlaw13_ShadowDoes : Env := [(13, .func Fshadow_New_int), (14, .func Fshadow_Shadow_int_Put), (18, .func Fshadow_Shadow_int_Back), (16, .func Fshadow_Shadow_int_Keep), (20, .func Fshadow_Shadow_int_Get), (22, .func Fshadow_Shadow_int_Loose), (6, .pure Flaw13_works), (15, .func Fref13_Shadow_Put), (17, .func Fref13_Shadow_Keep), (19, .func Fshadow_Shadow_int_Clear), (21, .func Fref13_Shadow_Get), (24, .func Fshadow_Shadow_int_Fresh), (23, .func Flaw13_same), (25, .func Fshadow_Shadow_int_Kept)]
theorem envlaw13_ShadowDoesOk : EnvOk Try.prog envlaw13_ShadowDoes := EnvOk.cons Fshadow_New_int_ok (EnvOk.cons Fshadow_Shadow_int_Put_ok (EnvOk.cons Fshadow_Shadow_int_Back_ok (EnvOk.cons Fshadow_Shadow_int_Keep_ok (EnvOk.cons Fshadow_Shadow_int_Get_ok (EnvOk.cons Fshadow_Shadow_int_Loose_ok (EnvOk.cons Flaw13_works_ok (EnvOk.cons Fref13_Shadow_Put_ok (EnvOk.cons Fref13_Shadow_Keep_ok (EnvOk.cons Fshadow_Shadow_int_Clear_ok (EnvOk.cons Fref13_Shadow_Get_ok (EnvOk.cons Fshadow_Shadow_int_Fresh_ok (EnvOk.cons Flaw13_same_ok (EnvOk.cons Fshadow_Shadow_int_Kept_ok (EnvOk.nil))))))))))))))
noncomputable def blaw13_ShadowDoes : Code := Try.f4.body.getD .skip
noncomputable def Llaw13_ShadowDoes_n4 : Code := codeAt [1, 1, 1, 1, 1, 0] blaw13_ShadowDoes
noncomputable def annLlaw13_ShadowDoes_n4 : Ann := .none
theorem annLlaw13_ShadowDoes_n4_ok : AnnOk Try.prog 143 Llaw13_ShadowDoes_n4 annLlaw13_ShadowDoes_n4 := (annOk_none _ _ _)
abbrev Ilaw13_ShadowDoes_n4 := (Int) × (List (Int × Int)) × (List (Int × Int)) × (List (Int × Int)) × (List (Int × Int))
abbrev Ylaw13_ShadowDoes_n4 := (Bool)
def Slaw13_ShadowDoes_n4 : Ilaw13_ShadowDoes_n4 → St := fun (t1, o2, o3, o4, o5) => { env := [(1, AV.int IntKind.i64 t1), (5, AV.ptr 0 0), (6, AV.ptr 1 0)], stk := [[]], H := [AE.Obj.cells [AV.map 2, AV.map 3], AE.Obj.cells [AV.own 4, AV.own 5], Obj.mp IntKind.i64 (Ty.int IntKind.i64) o2, Obj.mp IntKind.i64 (Ty.int IntKind.i64) o3, Obj.arr (Ty.st (Ty.pair (Ty.int IntKind.i64) (Ty.int IntKind.i64))) o4, Obj.arr (Ty.st (Ty.pair (Ty.int IntKind.i64) (Ty.int IntKind.i64))) o5], blk := 16384 }
def declaw13_ShadowDoes_n4 (s : St) : Option Ilaw13_ShadowDoes_n4 := match s with
  | { env := [(1, AV.int IntKind.i64 t1), (5, AV.ptr 0 0), (6, AV.ptr 1 0)], stk := [[]], H := [AE.Obj.cells [AV.map 2, AV.map 3], AE.Obj.cells [AV.own 4, AV.own 5], Obj.mp IntKind.i64 (Ty.int IntKind.i64) o2, Obj.mp IntKind.i64 (Ty.int IntKind.i64) o3, Obj.arr (Ty.st (Ty.pair (Ty.int IntKind.i64) (Ty.int IntKind.i64))) o4, Obj.arr (Ty.st (Ty.pair (Ty.int IntKind.i64) (Ty.int IntKind.i64))) o5], blk := 16384 } => some (t1, o2, o3, o4, o5)
  | _ => none
theorem declaw13_ShadowDoes_n4_ok (s : St) (x : Ilaw13_ShadowDoes_n4) (h : declaw13_ShadowDoes_n4 s = some x) : s = Slaw13_ShadowDoes_n4 x := by
  unfold declaw13_ShadowDoes_n4 at h
  split at h
  · cases h; rfl
  · cases h
def outlaw13_ShadowDoes_n4 : Ilaw13_ShadowDoes_n4 → (Ex → St → Ans) → Ylaw13_ShadowDoes_n4 → Ans := fun (t1, o2, o3, o4, o5) K => fun t4_y => K (Ex.norm) { env := [(4, AV.bool t4_y)], stk := [[]], H := [], blk := 16384 }
def nodelaw13_ShadowDoes_n4 {β : Type} : Ilaw13_ShadowDoes_n4 → (Ylaw13_ShadowDoes_n4 → Option β) → Option β := fun (t1, o2, o3, o4, o5) exit => (bindO (fnDshadow_Shadow_int_Fresh (o2, o3)) fun _ => (bindO (fnDlaw13_same (o5, t1, o3)) (unP fun r o1 => (bif r then (bindO (fnDshadow_Shadow_int_Kept (o2, o1)) fun _ => (bindO (fnDlaw13_same (o4, t1, o2)) (unP fun r_2 o1_2 => (bif r_2 then (bindO (fnDshadow_Shadow_int_Kept (o1_2, o1)) fun _ => (bindO (fnDlaw13_same (o4, (1000 : Int), o1_2)) (unP fun r_3 o1_3 => (exit (r_3))))) else (exit (false)))))) else (exit (false))))))
def nodeDlaw13_ShadowDoes_n4 (i : Ilaw13_ShadowDoes_n4) : Option Ylaw13_ShadowDoes_n4 := nodelaw13_ShadowDoes_n4 i some
theorem nodelaw13_ShadowDoes_n4_nat (i : Ilaw13_ShadowDoes_n4) (k : Ylaw13_ShadowDoes_n4 → Ans) : nodelaw13_ShadowDoes_n4 i k = bindO (nodeDlaw13_ShadowDoes_n4 i) k := by
  obtain ⟨t1, o2, o3, o4, o5⟩ := i
  simp only [nodeDlaw13_ShadowDoes_n4, nodelaw13_ShadowDoes_n4, bindO_cond, bindO_assoc, bindO_none, bindO_pure, bindO_elim, bindO_unP, bindO_empty]
theorem nodelaw13_ShadowDoes_n4_ok (i : Ilaw13_ShadowDoes_n4) (K : Ex → St → Ans) : codeI Try.tab envlaw13_ShadowDoes noHint (codeD Try.tab envlaw13_ShadowDoes noHint 0 64) 70 143 annLlaw13_ShadowDoes_n4 Llaw13_ShadowDoes_n4 (weakP 0 (exk [4] [4] []) K) (Slaw13_ShadowDoes_n4 i) = nodelaw13_ShadowDoes_n4 i (outlaw13_ShadowDoes_n4 i K) := by kernel_rfl
theorem GNlaw13_ShadowDoes_n4_ok : CSum Try.prog 143 Llaw13_ShadowDoes_n4 (sumN declaw13_ShadowDoes_n4 nodeDlaw13_ShadowDoes_n4 outlaw13_ShadowDoes_n4) := csum_node mixed tabOk envlaw13_ShadowDoesOk 0 (exk [4] [4] []) annLlaw13_ShadowDoes_n4_ok declaw13_ShadowDoes_n4_ok nodelaw13_ShadowDoes_n4_ok nodelaw13_ShadowDoes_n4_nat
noncomputable def Glaw13_ShadowDoes_n4 : (Ex → St → Ans) → St → Ans := (sumN declaw13_ShadowDoes_n4 nodeDlaw13_ShadowDoes_n4 outlaw13_ShadowDoes_n4)
theorem Glaw13_ShadowDoes_n4_ok : CSum Try.prog 143 Llaw13_ShadowDoes_n4 Glaw13_ShadowDoes_n4 := GNlaw13_ShadowDoes_n4_ok
noncomputable def Llaw13_ShadowDoes_n3 : Code := codeAt [1, 1, 1, 1, 0, 1, 0, 0, 1, 0, 0, 1, 1, 1, 0] blaw13_ShadowDoes
noncomputable def annLlaw13_ShadowDoes_n3 : Ann := .none
theorem annLlaw13_ShadowDoes_n3_ok : AnnOk Try.prog 143 Llaw13_ShadowDoes_n3 annLlaw13_ShadowDoes_n3 := (annOk_none _ _ _)
abbrev Ilaw13_ShadowDoes_n3 := (List (Int × Int × Int)) × (Int) × (Int) × (Int) × (Bool) × (Int) × (Bool) × (List (Int × Int)) × (List (Int × Int)) × (List (Int × Int)) × (List (Int × Int))
abbrev Ylaw13_ShadowDoes_n3 := (Bool)
def Slaw13_ShadowDoes_n3 : Ilaw13_ShadowDoes_n3 → St := fun (t0, t1, t7, t8, t9, t10, t11, o2, o3, o4, o5) => { env := [(0, AV.ro (Ty.st (Ty.pair (Ty.int IntKind.i64) (Ty.pair (Ty.int IntKind.i64) (Ty.int IntKind.i64)))) t0), (1, AV.int IntKind.i64 t1), (5, AV.ptr 0 0), (6, AV.ptr 1 0), (7, AV.int IntKind.i64 t7), (8, AV.int IntKind.i64 t8), (9, AV.bool t9), (10, AV.int IntKind.i64 t10), (11, AV.bool t11)], stk := [[]], H := [AE.Obj.cells [AV.map 2, AV.map 3], AE.Obj.cells [AV.own 4, AV.own 5], Obj.mp IntKind.i64 (Ty.int IntKind.i64) o2, Obj.mp IntKind.i64 (Ty.int IntKind.i64) o3, Obj.arr (Ty.st (Ty.pair (Ty.int IntKind.i64) (Ty.int IntKind.i64))) o4, Obj.arr (Ty.st (Ty.pair (Ty.int IntKind.i64) (Ty.int IntKind.i64))) o5], blk := 16386 }
def declaw13_ShadowDoes_n3 (s : St) : Option Ilaw13_ShadowDoes_n3 := match s with
  | { env := [(0, AV.ro (Ty.st (Ty.pair (Ty.int IntKind.i64) (Ty.pair (Ty.int IntKind.i64) (Ty.int IntKind.i64)))) t0), (1, AV.int IntKind.i64 t1), (5, AV.ptr 0 0), (6, AV.ptr 1 0), (7, AV.int IntKind.i64 t7), (8, AV.int IntKind.i64 t8), (9, AV.bool t9), (10, AV.int IntKind.i64 t10), (11, AV.bool t11)], stk := [[]], H := [AE.Obj.cells [AV.map 2, AV.map 3], AE.Obj.cells [AV.own 4, AV.own 5], Obj.mp IntKind.i64 (Ty.int IntKind.i64) o2, Obj.mp IntKind.i64 (Ty.int IntKind.i64) o3, Obj.arr (Ty.st (Ty.pair (Ty.int IntKind.i64) (Ty.int IntKind.i64))) o4, Obj.arr (Ty.st (Ty.pair (Ty.int IntKind.i64) (Ty.int IntKind.i64))) o5], blk := 16386 } => some (t0, t1, t7, t8, t9, t10, t11, o2, o3, o4, o5)
  | _ => none
theorem declaw13_ShadowDoes_n3_ok (s : St) (x : Ilaw13_ShadowDoes_n3) (h : declaw13_ShadowDoes_n3 s = some x) : s = Slaw13_ShadowDoes_n3 x := by
  unfold declaw13_ShadowDoes_n3 at h
  split at h
  · cases h; rfl
  · cases h
def outlaw13_ShadowDoes_n3 : Ilaw13_ShadowDoes_n3 → (Ex → St → Ans) → Ylaw13_ShadowDoes_n3 → Ans := fun (t0, t1, t7, t8, t9, t10, t11, o2, o3, o4, o5) K => fun t115_y => K (Ex.norm) { env := [(0, AV.ro (Ty.st (Ty.pair (Ty.int IntKind.i64) (Ty.pair (Ty.int IntKind.i64) (Ty.int IntKind.i64)))) t0), (1, AV.int IntKind.i64 t1), (5, AV.ptr 0 0), (6, AV.ptr 1 0), (7, AV.int IntKind.i64 t7), (115, AV.bool t115_y)], stk := [[]], H := [AE.Obj.cells [AV.map 2, AV.map 3], AE.Obj.cells [AV.own 4, AV.own 5], Obj.mp IntKind.i64 (Ty.int IntKind.i64) o2, Obj.mp IntKind.i64 (Ty.int IntKind.i64) o3, Obj.arr (Ty.st (Ty.pair (Ty.int IntKind.i64) (Ty.int IntKind.i64))) o4, Obj.arr (Ty.st (Ty.pair (Ty.int IntKind.i64) (Ty.int IntKind.i64))) o5], blk := 16386 }
def nodelaw13_ShadowDoes_n3 {β : Type} : Ilaw13_ShadowDoes_n3 → (Ylaw13_ShadowDoes_n3 → Option β) → Option β := fun (t0, t1, t7, t8, t9, t10, t11, o2, o3, o4, o5) exit => (bif t8 != t10 then (exit (true)) else (bif !t9 == t11 then (exit (true)) else (bindO (fnDshadow_Shadow_int_Loose (o2, o3)) fun r => (exit (r != (↑(List.length o5) : Int))))))
def nodeDlaw13_ShadowDoes_n3 (i : Ilaw13_ShadowDoes_n3) : Option Ylaw13_ShadowDoes_n3 := nodelaw13_ShadowDoes_n3 i some
theorem nodelaw13_ShadowDoes_n3_nat (i : Ilaw13_ShadowDoes_n3) (k : Ylaw13_ShadowDoes_n3 → Ans) : nodelaw13_ShadowDoes_n3 i k = bindO (nodeDlaw13_ShadowDoes_n3 i) k := by
  obtain ⟨t0, t1, t7, t8, t9, t10, t11, o2, o3, o4, o5⟩ := i
  simp only [nodeDlaw13_ShadowDoes_n3, nodelaw13_ShadowDoes_n3, bindO_cond, bindO_assoc, bindO_none, bindO_pure, bindO_elim, bindO_unP, bindO_empty]
theorem nodelaw13_ShadowDoes_n3_ok (i : Ilaw13_ShadowDoes_n3) (K : Ex → St → Ans) : codeI Try.tab envlaw13_ShadowDoes noHint (codeD Try.tab envlaw13_ShadowDoes noHint 0 64) 70 143 annLlaw13_ShadowDoes_n3 Llaw13_ShadowDoes_n3 (weakP 0 (exk [0, 1, 5, 6, 7, 115] [4] []) K) (Slaw13_ShadowDoes_n3 i) = nodelaw13_ShadowDoes_n3 i (outlaw13_ShadowDoes_n3 i K) := by kernel_rfl
theorem GNlaw13_ShadowDoes_n3_ok : CSum Try.prog 143 Llaw13_ShadowDoes_n3 (sumN declaw13_ShadowDoes_n3 nodeDlaw13_ShadowDoes_n3 outlaw13_ShadowDoes_n3) := csum_node mixed tabOk envlaw13_ShadowDoesOk 0 (exk [0, 1, 5, 6, 7, 115] [4] []) annLlaw13_ShadowDoes_n3_ok declaw13_ShadowDoes_n3_ok nodelaw13_ShadowDoes_n3_ok nodelaw13_ShadowDoes_n3_nat
noncomputable def Glaw13_ShadowDoes_n3 : (Ex → St → Ans) → St → Ans := (sumN declaw13_ShadowDoes_n3 nodeDlaw13_ShadowDoes_n3 outlaw13_ShadowDoes_n3)
theorem Glaw13_ShadowDoes_n3_ok : CSum Try.prog 143 Llaw13_ShadowDoes_n3 Glaw13_ShadowDoes_n3 := GNlaw13_ShadowDoes_n3_ok
noncomputable def Llaw13_ShadowDoes_n2 : Code := codeAt [1, 1, 1, 1, 0, 1, 0, 0, 1, 0, 0, 0, 1] blaw13_ShadowDoes
noncomputable def annLlaw13_ShadowDoes_n2 : Ann := .none
theorem annLlaw13_ShadowDoes_n2_ok : AnnOk Try.prog 143 Llaw13_ShadowDoes_n2 annLlaw13_ShadowDoes_n2 := (annOk_none _ _ _)
abbrev Ilaw13_ShadowDoes_n2 := (List (Int × Int × Int)) × (Int) × (Int) × (Int) × (List (Int × Int)) × (List (Int × Int)) × (List (Int × Int)) × (List (Int × Int))
abbrev Ylaw13_ShadowDoes_n2 := (List (Int × Int)) × (List (Int × Int)) × (List (Int × Int)) × (List (Int × Int))
def Slaw13_ShadowDoes_n2 : Ilaw13_ShadowDoes_n2 → St := fun (t0, t1, t7, t30, o2, o3, o4, o5) => { env := [(0, AV.ro (Ty.st (Ty.pair (Ty.int IntKind.i64) (Ty.pair (Ty.int IntKind.i64) (Ty.int IntKind.i64)))) t0), (1, AV.int IntKind.i64 t1), (5, AV.ptr 0 0), (6, AV.ptr 1 0), (7, AV.int IntKind.i64 t7), (30, AV.int IntKind.i64 t30)], stk := [[]], H := [AE.Obj.cells [AV.map 2, AV.map 3], AE.Obj.cells [AV.own 4, AV.own 5], Obj.mp IntKind.i64 (Ty.int IntKind.i64) o2, Obj.mp IntKind.i64 (Ty.int IntKind.i64) o3, Obj.arr (Ty.st (Ty.pair (Ty.int IntKind.i64) (Ty.int IntKind.i64))) o4, Obj.arr (Ty.st (Ty.pair (Ty.int IntKind.i64) (Ty.int IntKind.i64))) o5], blk := 16385 }
def declaw13_ShadowDoes_n2 (s : St) : Option Ilaw13_ShadowDoes_n2 := match s with
  | { env := [(0, AV.ro (Ty.st (Ty.pair (Ty.int IntKind.i64) (Ty.pair (Ty.int IntKind.i64) (Ty.int IntKind.i64)))) t0), (1, AV.int IntKind.i64 t1), (5, AV.ptr 0 0), (6, AV.ptr 1 0), (7, AV.int IntKind.i64 t7), (30, AV.int IntKind.i64 t30)], stk := [[]], H := [AE.Obj.cells [AV.map 2, AV.map 3], AE.Obj.cells [AV.own 4, AV.own 5], Obj.mp IntKind.i64 (Ty.int IntKind.i64) o2, Obj.mp IntKind.i64 (Ty.int IntKind.i64) o3, Obj.arr (Ty.st (Ty.pair (Ty.int IntKind.i64) (Ty.int IntKind.i64))) o4, Obj.arr (Ty.st (Ty.pair (Ty.int IntKind.i64) (Ty.int IntKind.i64))) o5], blk := 16385 } => some (t0, t1, t7, t30, o2, o3, o4, o5)
  | _ => none
theorem declaw13_ShadowDoes_n2_ok (s : St) (x : Ilaw13_ShadowDoes_n2) (h : declaw13_ShadowDoes_n2 s = some x) : s = Slaw13_ShadowDoes_n2 x := by
  unfold declaw13_ShadowDoes_n2 at h
  split at h
  · cases h; rfl
  · cases h
def outlaw13_ShadowDoes_n2 : Ilaw13_ShadowDoes_n2 → (Ex → St → Ans) → Ylaw13_ShadowDoes_n2 → Ans := fun (t0, t1, t7, t30, o2, o3, o4, o5) K => unP fun o2_y => unP fun o3_y => unP fun o4_y o5_y => K (Ex.norm) { env := [(0, AV.ro (Ty.st (Ty.pair (Ty.int IntKind.i64) (Ty.pair (Ty.int IntKind.i64) (Ty.int IntKind.i64)))) t0), (1, AV.int IntKind.i64 t1), (5, AV.ptr 0 0), (6, AV.ptr 1 0), (7, AV.int IntKind.i64 t7)], stk := [[]], H := [AE.Obj.cells [AV.map 2, AV.map 3], AE.Obj.cells [AV.own 4, AV.own 5], Obj.mp IntKind.i64 (Ty.int IntKind.i64) o2_y, Obj.mp IntKind.i64 (Ty.int IntKind.i64) o3_y, Obj.arr (Ty.st (Ty.pair (Ty.int IntKind.i64) (Ty.int IntKind.i64))) o4_y, Obj.arr (Ty.st (Ty.pair (Ty.int IntKind.i64) (Ty.int IntKind.i64))) o5_y], blk := 16386 }
def nodelaw13_ShadowDoes_n2 {β : Type} : Ilaw13_ShadowDoes_n2 → (Ylaw13_ShadowDoes_n2 → Option β) → Option β := fun (t0, t1, t7, t30, o2, o3, o4, o5) exit => (bif t30 == (0 : Int) then (bindO (nth t0 t7) fun x => (bindO (nth t0 t7) fun x_2 => (bindO (fnDshadow_Shadow_int_Put (x.snd.fst, x_2.snd.snd, o2, o3)) fun o2_2 => (bindO (nth t0 t7) fun x_3 => (bindO (nth t0 t7) fun x_4 => (bindO (fnDref13_Shadow_Put (x_3.snd.fst, x_4.snd.snd, o4, o5)) fun o3_2 => (exit (o2, o2_2, o4, o3_2)))))))) else (bif t30 == (1 : Int) then (bindO (fnDshadow_Shadow_int_Keep (o2, o3)) fun o1 => (bindO (fnDref13_Shadow_Keep (o4, o5)) (Sum.elim (fun o3_2 => (exit (o1, [], o3_2, []))) (fun _ => (exit (o1, [], o4, [])))))) else (bif t30 == (2 : Int) then (bindO (fnDshadow_Shadow_int_Back (o2, o3)) fun _ => (exit (o2, [], o4, []))) else (bif t30 == (3 : Int) then (bindO (fnDshadow_Shadow_int_Clear (o2, o3)) fun _ => (exit ([], o3, [], o5))) else (exit (o2, o3, o4, o5))))))
def nodeDlaw13_ShadowDoes_n2 (i : Ilaw13_ShadowDoes_n2) : Option Ylaw13_ShadowDoes_n2 := nodelaw13_ShadowDoes_n2 i some
theorem nodelaw13_ShadowDoes_n2_nat (i : Ilaw13_ShadowDoes_n2) (k : Ylaw13_ShadowDoes_n2 → Ans) : nodelaw13_ShadowDoes_n2 i k = bindO (nodeDlaw13_ShadowDoes_n2 i) k := by
  obtain ⟨t0, t1, t7, t30, o2, o3, o4, o5⟩ := i
  simp only [nodeDlaw13_ShadowDoes_n2, nodelaw13_ShadowDoes_n2, bindO_cond, bindO_assoc, bindO_none, bindO_pure, bindO_elim, bindO_unP, bindO_empty]
theorem nodelaw13_ShadowDoes_n2_ok (i : Ilaw13_ShadowDoes_n2) (K : Ex → St → Ans) : codeI Try.tab envlaw13_ShadowDoes noHint (codeD Try.tab envlaw13_ShadowDoes noHint 0 64) 70 143 annLlaw13_ShadowDoes_n2 Llaw13_ShadowDoes_n2 (weakP 0 (exk [0, 1, 5, 6, 7] [4] []) K) (Slaw13_ShadowDoes_n2 i) = nodelaw13_ShadowDoes_n2 i (outlaw13_ShadowDoes_n2 i K) := by kernel_rfl
theorem GNlaw13_ShadowDoes_n2_ok : CSum Try.prog 143 Llaw13_ShadowDoes_n2 (sumN declaw13_ShadowDoes_n2 nodeDlaw13_ShadowDoes_n2 outlaw13_ShadowDoes_n2) := csum_node mixed tabOk envlaw13_ShadowDoesOk 0 (exk [0, 1, 5, 6, 7] [4] []) annLlaw13_ShadowDoes_n2_ok declaw13_ShadowDoes_n2_ok nodelaw13_ShadowDoes_n2_ok nodelaw13_ShadowDoes_n2_nat
noncomputable def Glaw13_ShadowDoes_n2 : (Ex → St → Ans) → St → Ans := (sumN declaw13_ShadowDoes_n2 nodeDlaw13_ShadowDoes_n2 outlaw13_ShadowDoes_n2)
theorem Glaw13_ShadowDoes_n2_ok : CSum Try.prog 143 Llaw13_ShadowDoes_n2 Glaw13_ShadowDoes_n2 := GNlaw13_ShadowDoes_n2_ok
noncomputable def Llaw13_ShadowDoes_n1 : Code := codeAt [1, 1, 1, 1, 0, 1, 0, 0, 1, 0] blaw13_ShadowDoes
noncomputable def annLlaw13_ShadowDoes_n1 : Ann := (.block (.seq (.seq .none (.cut 0 [0, 1, 5, 6, 7, 30] Glaw13_ShadowDoes_n2)) (.seq .none (.seq .none (.seq (.cut 0 [0, 1, 5, 6, 7, 8, 9, 10, 11] Glaw13_ShadowDoes_n3) .none)))))
theorem annLlaw13_ShadowDoes_n1_ok : AnnOk Try.prog 143 Llaw13_ShadowDoes_n1 annLlaw13_ShadowDoes_n1 := ⟨⟨(annOk_none _ _ _), Glaw13_ShadowDoes_n2_ok⟩, ⟨(annOk_none _ _ _), ⟨(annOk_none _ _ _), ⟨Glaw13_ShadowDoes_n3_ok, (annOk_none _ _ _)⟩⟩⟩⟩
abbrev Ilaw13_ShadowDoes_n1 := (List (Int × Int × Int)) × (Int) × (Int) × (List (Int × Int)) × (List (Int × Int)) × (List (Int × Int)) × (List (Int × Int))
abbrev Ylaw13_ShadowDoes_n1 := (Unit) ⊕ ((List (Int × Int)) × (List (Int × Int)) × (List (Int × Int)) × (List (Int × Int)))
def Slaw13_ShadowDoes_n1 : Ilaw13_ShadowDoes_n1 → St := fun (t0, t1, t7, o2, o3, o4, o5) => { env := [(0, AV.ro (Ty.st (Ty.pair (Ty.int IntKind.i64) (Ty.pair (Ty.int IntKind.i64) (Ty.int IntKind.i64)))) t0), (1, AV.int IntKind.i64 t1), (5, AV.ptr 0 0), (6, AV.ptr 1 0), (7, AV.int IntKind.i64 t7)], stk := [[]], H := [AE.Obj.cells [AV.map 2, AV.map 3], AE.Obj.cells [AV.own 4, AV.own 5], Obj.mp IntKind.i64 (Ty.int IntKind.i64) o2, Obj.mp IntKind.i64 (Ty.int IntKind.i64) o3, Obj.arr (Ty.st (Ty.pair (Ty.int IntKind.i64) (Ty.int IntKind.i64))) o4, Obj.arr (Ty.st (Ty.pair (Ty.int IntKind.i64) (Ty.int IntKind.i64))) o5], blk := 16384 }
def declaw13_ShadowDoes_n1 (s : St) : Option Ilaw13_ShadowDoes_n1 := match s with
  | { env := [(0, AV.ro (Ty.st (Ty.pair (Ty.int IntKind.i64) (Ty.pair (Ty.int IntKind.i64) (Ty.int IntKind.i64)))) t0), (1, AV.int IntKind.i64 t1), (5, AV.ptr 0 0), (6, AV.ptr 1 0), (7, AV.int IntKind.i64 t7)], stk := [[]], H := [AE.Obj.cells [AV.map 2, AV.map 3], AE.Obj.cells [AV.own 4, AV.own 5], Obj.mp IntKind.i64 (Ty.int IntKind.i64) o2, Obj.mp IntKind.i64 (Ty.int IntKind.i64) o3, Obj.arr (Ty.st (Ty.pair (Ty.int IntKind.i64) (Ty.int IntKind.i64))) o4, Obj.arr (Ty.st (Ty.pair (Ty.int IntKind.i64) (Ty.int IntKind.i64))) o5], blk := 16384 } => some (t0, t1, t7, o2, o3, o4, o5)
  | _ => none
theorem declaw13_ShadowDoes_n1_ok (s : St) (x : Ilaw13_ShadowDoes_n1) (h : declaw13_ShadowDoes_n1 s = some x) : s = Slaw13_ShadowDoes_n1 x := by
  unfold declaw13_ShadowDoes_n1 at h
  split at h
  · cases h; rfl
  · cases h
def outlaw13_ShadowDoes_n1 : Ilaw13_ShadowDoes_n1 → (Ex → St → Ans) → Ylaw13_ShadowDoes_n1 → Ans := fun (t0, t1, t7, o2, o3, o4, o5) K => (Sum.elim (fun _ => K (Ex.ret) { env := [(4, AV.bool (false))], stk := [[]], H := [], blk := 16386 }) (unP fun o2_y => unP fun o3_y => unP fun o4_y o5_y => K (Ex.norm) { env := [(0, AV.ro (Ty.st (Ty.pair (Ty.int IntKind.i64) (Ty.pair (Ty.int IntKind.i64) (Ty.int IntKind.i64)))) t0), (1, AV.int IntKind.i64 t1), (5, AV.ptr 0 0), (6, AV.ptr 1 0), (7, AV.int IntKind.i64 t7)], stk := [[]], H := [AE.Obj.cells [AV.map 2, AV.map 3], AE.Obj.cells [AV.own 4, AV.own 5], Obj.mp IntKind.i64 (Ty.int IntKind.i64) o2_y, Obj.mp IntKind.i64 (Ty.int IntKind.i64) o3_y, Obj.arr (Ty.st (Ty.pair (Ty.int IntKind.i64) (Ty.int IntKind.i64))) o4_y, Obj.arr (Ty.st (Ty.pair (Ty.int IntKind.i64) (Ty.int IntKind.i64))) o5_y], blk := 16386 }))
def nodelaw13_ShadowDoes_n1 {β : Type} : Ilaw13_ShadowDoes_n1 → (Ylaw13_ShadowDoes_n1 → Option β) → Option β := fun (t0, t1, t7, o2, o3, o4, o5) exit => (bindO (nth t0 t7) fun x => (bindO (nodeDlaw13_ShadowDoes_n2 (t0, t1, t7, x.fst, o2, o3, o4, o5)) (unP fun o2_2 => unP fun o3_2 => unP fun o4_2 o5_2 => (bindO (nth t0 t7) fun x_2 => (bindO (fnDshadow_Shadow_int_Get (x_2.snd.fst, o2_2, o3_2)) (unP fun r_0 r_1 => (bindO (nth t0 t7) fun x_3 => (bindO (fnDref13_Shadow_Get (x_3.snd.fst, o4_2, o5_2)) (unP fun r_0_2 r_1_2 => (bindO (nodeDlaw13_ShadowDoes_n3 (t0, t1, t7, r_0, r_1, r_0_2, r_1_2, o2_2, o3_2, o4_2, o5_2)) fun t115 => (bif t115 then (exit (Sum.inl ())) else (exit (Sum.inr (o2_2, o3_2, o4_2, o5_2))))))))))))))
def nodeDlaw13_ShadowDoes_n1 (i : Ilaw13_ShadowDoes_n1) : Option Ylaw13_ShadowDoes_n1 := nodelaw13_ShadowDoes_n1 i some
theorem nodelaw13_ShadowDoes_n1_nat (i : Ilaw13_ShadowDoes_n1) (k : Ylaw13_ShadowDoes_n1 → Ans) : nodelaw13_ShadowDoes_n1 i k = bindO (nodeDlaw13_ShadowDoes_n1 i) k := by
  obtain ⟨t0, t1, t7, o2, o3, o4, o5⟩ := i
  simp only [nodeDlaw13_ShadowDoes_n1, nodelaw13_ShadowDoes_n1, bindO_cond, bindO_assoc, bindO_none, bindO_pure, bindO_elim, bindO_unP, bindO_empty]
theorem nodelaw13_ShadowDoes_n1_ok (i : Ilaw13_ShadowDoes_n1) (K : Ex → St → Ans) : codeI Try.tab envlaw13_ShadowDoes noHint (codeD Try.tab envlaw13_ShadowDoes noHint 0 64) 70 143 annLlaw13_ShadowDoes_n1 Llaw13_ShadowDoes_n1 (weakP 0 (exk [0, 1, 5, 6, 7] [4] []) K) (Slaw13_ShadowDoes_n1 i) = nodelaw13_ShadowDoes_n1 i (outlaw13_ShadowDoes_n1 i K) := by kernel_rfl
theorem GNlaw13_ShadowDoes_n1_ok : CSum Try.prog 143 Llaw13_ShadowDoes_n1 (sumN declaw13_ShadowDoes_n1 nodeDlaw13_ShadowDoes_n1 outlaw13_ShadowDoes_n1) := csum_node mixed tabOk envlaw13_ShadowDoesOk 0 (exk [0, 1, 5, 6, 7] [4] []) annLlaw13_ShadowDoes_n1_ok declaw13_ShadowDoes_n1_ok nodelaw13_ShadowDoes_n1_ok nodelaw13_ShadowDoes_n1_nat
noncomputable def Glaw13_ShadowDoes_n1 : (Ex → St → Ans) → St → Ans := (sumN declaw13_ShadowDoes_n1 nodeDlaw13_ShadowDoes_n1 outlaw13_ShadowDoes_n1)
theorem Glaw13_ShadowDoes_n1_ok : CSum Try.prog 143 Llaw13_ShadowDoes_n1 Glaw13_ShadowDoes_n1 := GNlaw13_ShadowDoes_n1_ok
noncomputable def Llaw13_ShadowDoes_n0 : Code := codeAt [1, 1, 1, 1, 0, 1, 0, 0] blaw13_ShadowDoes
noncomputable def annLlaw13_ShadowDoes_n0 : Ann := .at 0 [0, 1, 5, 6, 7] (.loop (.seq .none (.seq (.cut 0 [0, 1, 5, 6, 7] Glaw13_ShadowDoes_n1) .none)))
theorem annLlaw13_ShadowDoes_n0_ok : AnnOk Try.prog 143 (.loop Llaw13_ShadowDoes_n0) annLlaw13_ShadowDoes_n0 := annOk_at ⟨(annOk_none _ _ _), ⟨Glaw13_ShadowDoes_n1_ok, (annOk_none _ _ _)⟩⟩
abbrev Ilaw13_ShadowDoes_n0 := (List (Int × Int × Int)) × (Int)
abbrev Ylaw13_ShadowDoes_n0 := (Unit) ⊕ ((List (Int × Int)) × (List (Int × Int)) × (List (Int × Int)) × (List (Int × Int)))
abbrev Vlaw13_ShadowDoes_n0 := (Int) × (List (Int × Int)) × (List (Int × Int)) × (List (Int × Int)) × (List (Int × Int))
def Slaw13_ShadowDoes_n0 : Ilaw13_ShadowDoes_n0 → Vlaw13_ShadowDoes_n0 → St := fun (t0, t1) (t7, o2, o3, o4, o5) => { env := [(0, AV.ro (Ty.st (Ty.pair (Ty.int IntKind.i64) (Ty.pair (Ty.int IntKind.i64) (Ty.int IntKind.i64)))) t0), (1, AV.int IntKind.i64 t1), (5, AV.ptr 0 0), (6, AV.ptr 1 0), (7, AV.int IntKind.i64 t7)], stk := [[]], H := [AE.Obj.cells [AV.map 2, AV.map 3], AE.Obj.cells [AV.own 4, AV.own 5], Obj.mp IntKind.i64 (Ty.int IntKind.i64) o2, Obj.mp IntKind.i64 (Ty.int IntKind.i64) o3, Obj.arr (Ty.st (Ty.pair (Ty.int IntKind.i64) (Ty.int IntKind.i64))) o4, Obj.arr (Ty.st (Ty.pair (Ty.int IntKind.i64) (Ty.int IntKind.i64))) o5], blk := 16384 }
def declaw13_ShadowDoes_n0 (s : St) : Option (Ilaw13_ShadowDoes_n0 × Vlaw13_ShadowDoes_n0) := match s with
  | { env := [(0, AV.ro (Ty.st (Ty.pair (Ty.int IntKind.i64) (Ty.pair (Ty.int IntKind.i64) (Ty.int IntKind.i64)))) t0), (1, AV.int IntKind.i64 t1), (5, AV.ptr 0 0), (6, AV.ptr 1 0), (7, AV.int IntKind.i64 t7)], stk := [[]], H := [AE.Obj.cells [AV.map 2, AV.map 3], AE.Obj.cells [AV.own 4, AV.own 5], Obj.mp IntKind.i64 (Ty.int IntKind.i64) o2, Obj.mp IntKind.i64 (Ty.int IntKind.i64) o3, Obj.arr (Ty.st (Ty.pair (Ty.int IntKind.i64) (Ty.int IntKind.i64))) o4, Obj.arr (Ty.st (Ty.pair (Ty.int IntKind.i64) (Ty.int IntKind.i64))) o5], blk := 16384 } => some ((t0, t1), (t7, o2, o3, o4, o5))
  | _ => none
theorem declaw13_ShadowDoes_n0_ok (s : St) (x : Ilaw13_ShadowDoes_n0 × Vlaw13_ShadowDoes_n0) (h : declaw13_ShadowDoes_n0 s = some x) : s = Slaw13_ShadowDoes_n0 x.1 x.2 := by
  unfold declaw13_ShadowDoes_n0 at h
  split at h
  · cases h; rfl
  · cases h
def outlaw13_ShadowDoes_n0 : Ilaw13_ShadowDoes_n0 → (Ex → St → Ans) → Ylaw13_ShadowDoes_n0 → Ans := fun (t0, t1) K => (Sum.elim (fun _ => K (Ex.ret) { env := [(4, AV.bool (false))], stk := [[]], H := [], blk := 16386 }) (unP fun o2_y => unP fun o3_y => unP fun o4_y o5_y => K (Ex.exit 0) { env := [(1, AV.int IntKind.i64 t1), (5, AV.ptr 0 0), (6, AV.ptr 1 0)], stk := [[]], H := [AE.Obj.cells [AV.map 2, AV.map 3], AE.Obj.cells [AV.own 4, AV.own 5], Obj.mp IntKind.i64 (Ty.int IntKind.i64) o2_y, Obj.mp IntKind.i64 (Ty.int IntKind.i64) o3_y, Obj.arr (Ty.st (Ty.pair (Ty.int IntKind.i64) (Ty.int IntKind.i64))) o4_y, Obj.arr (Ty.st (Ty.pair (Ty.int IntKind.i64) (Ty.int IntKind.i64))) o5_y], blk := 16384 }))
def steplaw13_ShadowDoes_n0 {β : Type} : Ilaw13_ShadowDoes_n0 → Vlaw13_ShadowDoes_n0 → (Vlaw13_ShadowDoes_n0 → Option β) → (Ylaw13_ShadowDoes_n0 → Option β) → Option β := fun (t0, t1) (t7, o2, o3, o4, o5) next exit => (bif decide (t7 < (↑(List.length t0) : Int)) then (bindO (nodeDlaw13_ShadowDoes_n1 (t0, t1, t7, o2, o3, o4, o5)) (Sum.elim (fun _ => (exit (Sum.inl ()))) (unP fun o2_2 => unP fun o3_2 => unP fun o4_2 o5_2 => (next (IntKind.wrap IntKind.i64 (t7 + (1 : Int)), o2_2, o3_2, o4_2, o5_2))))) else (exit (Sum.inr (o2, o3, o4, o5))))
def stepDlaw13_ShadowDoes_n0 (i : Ilaw13_ShadowDoes_n0) (v : Vlaw13_ShadowDoes_n0) : Option (Vlaw13_ShadowDoes_n0 ⊕ Ylaw13_ShadowDoes_n0) := steplaw13_ShadowDoes_n0 i v (fun v => some (.inl v)) (fun y => some (.inr y))
theorem steplaw13_ShadowDoes_n0_nat (i : Ilaw13_ShadowDoes_n0) (v : Vlaw13_ShadowDoes_n0) (next : Vlaw13_ShadowDoes_n0 → Ans) (exit : Ylaw13_ShadowDoes_n0 → Ans) : steplaw13_ShadowDoes_n0 i v next exit = bindO (stepDlaw13_ShadowDoes_n0 i v) (Sum.elim next exit) := by
  obtain ⟨t0, t1⟩ := i
  obtain ⟨t7, o2, o3, o4, o5⟩ := v
  simp only [stepDlaw13_ShadowDoes_n0, steplaw13_ShadowDoes_n0, bindO_cond, bindO_assoc, bindO_none, bindO_pure, bindO_elim, bindO_unP, bindO_empty, Sum.elim_inl, Sum.elim_inr]
theorem steplaw13_ShadowDoes_n0_ok (n : Nat) (i : Ilaw13_ShadowDoes_n0) (v : Vlaw13_ShadowDoes_n0) (K : Ex → St → Ans) : codeI Try.tab envlaw13_ShadowDoes noHint (codeD Try.tab envlaw13_ShadowDoes noHint 0 64) (n+1) 143 annLlaw13_ShadowDoes_n0 (.loop Llaw13_ShadowDoes_n0) (weakP 0 (exk [1, 5, 6] [4] [(0, [1, 5, 6])]) K) (Slaw13_ShadowDoes_n0 i v) = steplaw13_ShadowDoes_n0 i v (fun v' => codeI Try.tab envlaw13_ShadowDoes noHint (codeD Try.tab envlaw13_ShadowDoes noHint 0 64) n 143 annLlaw13_ShadowDoes_n0 (.loop Llaw13_ShadowDoes_n0) (weakP 0 (exk [1, 5, 6] [4] [(0, [1, 5, 6])]) K) (Slaw13_ShadowDoes_n0 i v')) (fun y => outlaw13_ShadowDoes_n0 i K y) := by kernel_rfl
theorem GNlaw13_ShadowDoes_n0_ok : CSum Try.prog 143 (.loop Llaw13_ShadowDoes_n0) (sumL declaw13_ShadowDoes_n0 stepDlaw13_ShadowDoes_n0 outlaw13_ShadowDoes_n0) := csum_loop mixed tabOk envlaw13_ShadowDoesOk 0 (exk [1, 5, 6] [4] [(0, [1, 5, 6])]) annLlaw13_ShadowDoes_n0_ok declaw13_ShadowDoes_n0_ok steplaw13_ShadowDoes_n0_ok steplaw13_ShadowDoes_n0_nat
noncomputable def Glaw13_ShadowDoes_n0 : (Ex → St → Ans) → St → Ans := (sumL declaw13_ShadowDoes_n0 stepDlaw13_ShadowDoes_n0 outlaw13_ShadowDoes_n0)
theorem Glaw13_ShadowDoes_n0_ok : CSum Try.prog 143 (.loop Llaw13_ShadowDoes_n0) Glaw13_ShadowDoes_n0 := GNlaw13_ShadowDoes_n0_ok
noncomputable def annlaw13_ShadowDoes : Ann := (.seq .none (.seq .none (.seq .none (.seq .none (.seq (.seq .none (.block (.cut 0 [0, 1, 5, 6, 7] Glaw13_ShadowDoes_n0))) (.seq (.cut 0 [1, 5, 6] Glaw13_ShadowDoes_n4) .none))))))
theorem annlaw13_ShadowDoes_ok : AnnOk Try.prog 143 blaw13_ShadowDoes annlaw13_ShadowDoes := ⟨(annOk_none _ _ _), ⟨(annOk_none _ _ _), ⟨(annOk_none _ _ _), ⟨(annOk_none _ _ _), ⟨⟨(annOk_none _ _ _), Glaw13_ShadowDoes_n0_ok⟩, ⟨Glaw13_ShadowDoes_n4_ok, (annOk_none _ _ _)⟩⟩⟩⟩⟩⟩
abbrev Alaw13_ShadowDoes := (List (Int × Int × Int)) × (Int)
abbrev Ylaw13_ShadowDoes := (Bool)
def fnlaw13_ShadowDoes {β : Type} : Alaw13_ShadowDoes → (Ylaw13_ShadowDoes → Option β) → Option β := fun (a0, a1) exit => (bindO (fnDlaw13_works ()) fun r => (bif !r then (exit (false)) else (bif decide ((↑(List.length a0) : Int) > (200 : Int)) then (exit (true)) else (bindO (fnDshadow_New_int ()) fun _ => (bindO (loopD (stepDlaw13_ShadowDoes_n0 (a0, a1)) FUEL ((0 : Int), [], [], [], [])) (Sum.elim (fun _ => (exit (false))) (unP fun o2 => unP fun o3 => unP fun o4 o5 => (bindO (nodeDlaw13_ShadowDoes_n4 (a1, o2, o3, o4, o5)) fun t4 => (exit (t4))))))))))
def fnDlaw13_ShadowDoes (a : Alaw13_ShadowDoes) : Option Ylaw13_ShadowDoes := fnlaw13_ShadowDoes a some
theorem fnlaw13_ShadowDoes_nat (a : Alaw13_ShadowDoes) (k : Ylaw13_ShadowDoes → Ans) : fnlaw13_ShadowDoes a k = bindO (fnDlaw13_ShadowDoes a) k := by
  obtain ⟨a0, a1⟩ := a
  simp only [fnDlaw13_ShadowDoes, fnlaw13_ShadowDoes, bindO_cond, bindO_assoc, bindO_none, bindO_pure, bindO_elim, bindO_unP, bindO_empty]
def argslaw13_ShadowDoes : Alaw13_ShadowDoes → List AV × List AE.Obj := fun (a0, a1) => ([AV.ro (Ty.st (Ty.pair (Ty.int IntKind.i64) (Ty.pair (Ty.int IntKind.i64) (Ty.int IntKind.i64)))) a0, AV.int IntKind.i64 a1], [])
def decAlaw13_ShadowDoes (l : List AV) (H : List AE.Obj) : Option Alaw13_ShadowDoes := match l, H with
  | [AV.ro (Ty.st (Ty.pair (Ty.int IntKind.i64) (Ty.pair (Ty.int IntKind.i64) (Ty.int IntKind.i64)))) a0, AV.int IntKind.i64 a1], [] => some (a0, a1)
  | _, _ => none
theorem decAlaw13_ShadowDoes_ok (l : List AV) (H : List AE.Obj) (a : Alaw13_ShadowDoes) (h : decAlaw13_ShadowDoes l H = some a) : (l, H) = argslaw13_ShadowDoes a := by
  unfold decAlaw13_ShadowDoes at h
  split at h
  · cases h; rfl
  · cases h
def outlaw13_ShadowDoes : Alaw13_ShadowDoes → (AV → List AE.Obj → Ans) → Ylaw13_ShadowDoes → Ans := fun (a0, a1) K => fun r_y => K (AV.bool r_y) []
theorem fnlaw13_ShadowDoes_ok (a : Alaw13_ShadowDoes) (K : AV → List AE.Obj → Ans) : fnE Try.tab envlaw13_ShadowDoes noHint 0 70 4 Try.f4.ntmps Try.f4.results.toList annlaw13_ShadowDoes blaw13_ShadowDoes (argslaw13_ShadowDoes a).1 (argslaw13_ShadowDoes a).2 K = fnlaw13_ShadowDoes a (outlaw13_ShadowDoes a K) := by kernel_rfl
def vFlaw13_ShadowDoes (a : Alaw13_ShadowDoes) (K : AV → List AE.Obj → Ans) : Ans := bindO (fnDlaw13_ShadowDoes a) fun y => outlaw13_ShadowDoes a K y
def Flaw13_ShadowDoes : List AV → List AE.Obj → (AV → List AE.Obj → Ans) → Ans := fun l H K => bindO (decAlaw13_ShadowDoes l H) fun a => vFlaw13_ShadowDoes a K
theorem Flaw13_ShadowDoes_ok : FuncOk Try.prog 4 Flaw13_ShadowDoes := func_mkD (hint := noHint) (d := 0) (n := 70) mixed tabOk envlaw13_ShadowDoesOk Try.func4 (bodySome (by kernel_rfl)) (by decide +kernel) annlaw13_ShadowDoes_ok decAlaw13_ShadowDoes_ok fnlaw13_ShadowDoes_ok fnlaw13_ShadowDoes_nat
--@ shadow_Shadow_int_Put_2
noncomputable def envshadow_Shadow_int_Put_2 : Env := []
theorem envshadow_Shadow_int_Put_2Ok : EnvOk Try.prog envshadow_Shadow_int_Put_2 := EnvOk.nil
noncomputable def bshadow_Shadow_int_Put_2 : Code := Try.f14.body.getD .skip
noncomputable def annshadow_Shadow_int_Put_2 : Ann := .none
theorem annshadow_Shadow_int_Put_2_ok : AnnOk Try.prog 16 bshadow_Shadow_int_Put_2 annshadow_Shadow_int_Put_2 := (annOk_none _ _ _)
abbrev Ashadow_Shadow_int_Put_2 := (Int) × (Int)
abbrev Yshadow_Shadow_int_Put_2 := Unit
def fnshadow_Shadow_int_Put_2 {β : Type} : Ashadow_Shadow_int_Put_2 → (Yshadow_Shadow_int_Put_2 → Option β) → Option β := fun (a1, a2) exit => (exit ())
def fnDshadow_Shadow_int_Put_2 (a : Ashadow_Shadow_int_Put_2) : Option Yshadow_Shadow_int_Put_2 := fnshadow_Shadow_int_Put_2 a some
theorem fnshadow_Shadow_int_Put_2_nat (a : Ashadow_Shadow_int_Put_2) (k : Yshadow_Shadow_int_Put_2 → Ans) : fnshadow_Shadow_int_Put_2 a k = bindO (fnDshadow_Shadow_int_Put_2 a) k := by
  obtain ⟨a1, a2⟩ := a
  simp only [fnDshadow_Shadow_int_Put_2, fnshadow_Shadow_int_Put_2, bindO_cond, bindO_assoc, bindO_none, bindO_pure, bindO_elim, bindO_unP, bindO_empty]
def argsshadow_Shadow_int_Put_2 : Ashadow_Shadow_int_Put_2 → List AV × List AE.Obj := fun (a1, a2) => ([AV.nilp, AV.int IntKind.i64 a1, AV.int IntKind.i64 a2], [])
def decAshadow_Shadow_int_Put_2 (l : List AV) (H : List AE.Obj) : Option Ashadow_Shadow_int_Put_2 := match l, H with
  | [AV.nilp, AV.int IntKind.i64 a1, AV.int IntKind.i64 a2], [] => some (a1, a2)
  | _, _ => none
theorem decAshadow_Shadow_int_Put_2_ok (l : List AV) (H : List AE.Obj) (a : Ashadow_Shadow_int_Put_2) (h : decAshadow_Shadow_int_Put_2 l H = some a) : (l, H) = argsshadow_Shadow_int_Put_2 a := by
  unfold decAshadow_Shadow_int_Put_2 at h
  split at h
  · cases h; rfl
  · cases h
def outshadow_Shadow_int_Put_2 : Ashadow_Shadow_int_Put_2 → (AV → List AE.Obj → Ans) → Yshadow_Shadow_int_Put_2 → Ans := fun (a1, a2) K => fun _ => K (AV.tup []) []
theorem fnshadow_Shadow_int_Put_2_ok (a : Ashadow_Shadow_int_Put_2) (K : AV → List AE.Obj → Ans) : fnE Try.tab envshadow_Shadow_int_Put_2 noHint 0 70 14 Try.f14.ntmps Try.f14.results.toList annshadow_Shadow_int_Put_2 bshadow_Shadow_int_Put_2 (argsshadow_Shadow_int_Put_2 a).1 (argsshadow_Shadow_int_Put_2 a).2 K = fnshadow_Shadow_int_Put_2 a (outshadow_Shadow_int_Put_2 a K) := by kernel_rfl
def vFshadow_Shadow_int_Put_2 (a : Ashadow_Shadow_int_Put_2) (K : AV → List AE.Obj → Ans) : Ans := bindO (fnDshadow_Shadow_int_Put_2 a) fun y => outshadow_Shadow_int_Put_2 a K y
def Fshadow_Shadow_int_Put_2 : List AV → List AE.Obj → (AV → List AE.Obj → Ans) → Ans := fun l H K => bindO (decAshadow_Shadow_int_Put_2 l H) fun a => vFshadow_Shadow_int_Put_2 a K
theorem Fshadow_Shadow_int_Put_2_ok : FuncOk Try.prog 14 Fshadow_Shadow_int_Put_2 := func_mkD (hint := noHint) (d := 0) (n := 70) mixed tabOk envshadow_Shadow_int_Put_2Ok Try.func14 (bodySome (by kernel_rfl)) (by decide +kernel) annshadow_Shadow_int_Put_2_ok decAshadow_Shadow_int_Put_2_ok fnshadow_Shadow_int_Put_2_ok fnshadow_Shadow_int_Put_2_nat
--@ shadow_Shadow_int_Keep_2
noncomputable def envshadow_Shadow_int_Keep_2 : Env := [(100033, (.iter (eachBegin .str) (eachNext .str))), (100035, (.iter (eachBegin (.int .i64)) (eachNext (.int .i64))))]
theorem envshadow_Shadow_int_Keep_2Ok : EnvOk Try.prog envshadow_Shadow_int_Keep_2 := EnvOk.cons iter33_spec (EnvOk.cons iter35_spec (EnvOk.nil))
noncomputable def bshadow_Shadow_int_Keep_2 : Code := Try.f16.body.getD .skip
noncomputable def annshadow_Shadow_int_Keep_2 : Ann := .none
theorem annshadow_Shadow_int_Keep_2_ok : AnnOk Try.prog 23 bshadow_Shadow_int_Keep_2 annshadow_Shadow_int_Keep_2 := (annOk_none _ _ _)
abbrev Ashadow_Shadow_int_Keep_2 := Unit
abbrev Yshadow_Shadow_int_Keep_2 := Unit
def fnshadow_Shadow_int_Keep_2 {β : Type} : Ashadow_Shadow_int_Keep_2 → (Yshadow_Shadow_int_Keep_2 → Option β) → Option β := fun _ exit => (exit ())
def fnDshadow_Shadow_int_Keep_2 (a : Ashadow_Shadow_int_Keep_2) : Option Yshadow_Shadow_int_Keep_2 := fnshadow_Shadow_int_Keep_2 a some
theorem fnshadow_Shadow_int_Keep_2_nat (a : Ashadow_Shadow_int_Keep_2) (k : Yshadow_Shadow_int_Keep_2 → Ans) : fnshadow_Shadow_int_Keep_2 a k = bindO (fnDshadow_Shadow_int_Keep_2 a) k := by
  obtain z := a
  simp only [fnDshadow_Shadow_int_Keep_2, fnshadow_Shadow_int_Keep_2, bindO_cond, bindO_assoc, bindO_none, bindO_pure, bindO_elim, bindO_unP, bindO_empty]
def argsshadow_Shadow_int_Keep_2 : Ashadow_Shadow_int_Keep_2 → List AV × List AE.Obj := fun _ => ([AV.nilp], [])
def decAshadow_Shadow_int_Keep_2 (l : List AV) (H : List AE.Obj) : Option Ashadow_Shadow_int_Keep_2 := match l, H with
  | [AV.nilp], [] => some ()
  | _, _ => none
theorem decAshadow_Shadow_int_Keep_2_ok (l : List AV) (H : List AE.Obj) (a : Ashadow_Shadow_int_Keep_2) (h : decAshadow_Shadow_int_Keep_2 l H = some a) : (l, H) = argsshadow_Shadow_int_Keep_2 a := by
  unfold decAshadow_Shadow_int_Keep_2 at h
  split at h
  · cases h; rfl
  · cases h
def outshadow_Shadow_int_Keep_2 : Ashadow_Shadow_int_Keep_2 → (AV → List AE.Obj → Ans) → Yshadow_Shadow_int_Keep_2 → Ans := fun _ K => fun _ => K (AV.tup []) []
theorem fnshadow_Shadow_int_Keep_2_ok (a : Ashadow_Shadow_int_Keep_2) (K : AV → List AE.Obj → Ans) : fnE Try.tab envshadow_Shadow_int_Keep_2 noHint 0 70 16 Try.f16.ntmps Try.f16.results.toList annshadow_Shadow_int_Keep_2 bshadow_Shadow_int_Keep_2 (argsshadow_Shadow_int_Keep_2 a).1 (argsshadow_Shadow_int_Keep_2 a).2 K = fnshadow_Shadow_int_Keep_2 a (outshadow_Shadow_int_Keep_2 a K) := by kernel_rfl
def vFshadow_Shadow_int_Keep_2 (a : Ashadow_Shadow_int_Keep_2) (K : AV → List AE.Obj → Ans) : Ans := bindO (fnDshadow_Shadow_int_Keep_2 a) fun y => outshadow_Shadow_int_Keep_2 a K y
def Fshadow_Shadow_int_Keep_2 : List AV → List AE.Obj → (AV → List AE.Obj → Ans) → Ans := fun l H K => bindO (decAshadow_Shadow_int_Keep_2 l H) fun a => vFshadow_Shadow_int_Keep_2 a K
theorem Fshadow_Shadow_int_Keep_2_ok : FuncOk Try.prog 16 Fshadow_Shadow_int_Keep_2 := func_mkD (hint := noHint) (d := 0) (n := 70) mixed tabOk envshadow_Shadow_int_Keep_2Ok Try.func16 (bodySome (by kernel_rfl)) (by decide +kernel) annshadow_Shadow_int_Keep_2_ok decAshadow_Shadow_int_Keep_2_ok fnshadow_Shadow_int_Keep_2_ok fnshadow_Shadow_int_Keep_2_nat
--@ shadow_Shadow_int_Back_2
noncomputable def envshadow_Shadow_int_Back_2 : Env := []
theorem envshadow_Shadow_int_Back_2Ok : EnvOk Try.prog envshadow_Shadow_int_Back_2 := EnvOk.nil
noncomputable def bshadow_Shadow_int_Back_2 : Code := Try.f18.body.getD .skip
noncomputable def annshadow_Shadow_int_Back_2 : Ann := .none
theorem annshadow_Shadow_int_Back_2_ok : AnnOk Try.prog 8 bshadow_Shadow_int_Back_2 annshadow_Shadow_int_Back_2 := (annOk_none _ _ _)
abbrev Ashadow_Shadow_int_Back_2 := Unit
abbrev Yshadow_Shadow_int_Back_2 := Unit
def fnshadow_Shadow_int_Back_2 {β : Type} : Ashadow_Shadow_int_Back_2 → (Yshadow_Shadow_int_Back_2 → Option β) → Option β := fun _ exit => (exit ())
def fnDshadow_Shadow_int_Back_2 (a : Ashadow_Shadow_int_Back_2) : Option Yshadow_Shadow_int_Back_2 := fnshadow_Shadow_int_Back_2 a some
theorem fnshadow_Shadow_int_Back_2_nat (a : Ashadow_Shadow_int_Back_2) (k : Yshadow_Shadow_int_Back_2 → Ans) : fnshadow_Shadow_int_Back_2 a k = bindO (fnDshadow_Shadow_int_Back_2 a) k := by
  obtain z := a
  simp only [fnDshadow_Shadow_int_Back_2, fnshadow_Shadow_int_Back_2, bindO_cond, bindO_assoc, bindO_none, bindO_pure, bindO_elim, bindO_unP, bindO_empty]
def argsshadow_Shadow_int_Back_2 : Ashadow_Shadow_int_Back_2 → List AV × List AE.Obj := fun _ => ([AV.nilp], [])
def decAshadow_Shadow_int_Back_2 (l : List AV) (H : List AE.Obj) : Option Ashadow_Shadow_int_Back_2 := match l, H with
  | [AV.nilp], [] => some ()
  | _, _ => none
theorem decAshadow_Shadow_int_Back_2_ok (l : List AV) (H : List AE.Obj) (a : Ashadow_Shadow_int_Back_2) (h : decAshadow_Shadow_int_Back_2 l H = some a) : (l, H) = argsshadow_Shadow_int_Back_2 a := by
  unfold decAshadow_Shadow_int_Back_2 at h
  split at h
  · cases h; rfl
  · cases h
def outshadow_Shadow_int_Back_2 : Ashadow_Shadow_int_Back_2 → (AV → List AE.Obj → Ans) → Yshadow_Shadow_int_Back_2 → Ans := fun _ K => fun _ => K (AV.tup []) []
theorem fnshadow_Shadow_int_Back_2_ok (a : Ashadow_Shadow_int_Back_2) (K : AV → List AE.Obj → Ans) : fnE Try.tab envshadow_Shadow_int_Back_2 noHint 0 70 18 Try.f18.ntmps Try.f18.results.toList annshadow_Shadow_int_Back_2 bshadow_Shadow_int_Back_2 (argsshadow_Shadow_int_Back_2 a).1 (argsshadow_Shadow_int_Back_2 a).2 K = fnshadow_Shadow_int_Back_2 a (outshadow_Shadow_int_Back_2 a K) := by kernel_rfl
def vFshadow_Shadow_int_Back_2 (a : Ashadow_Shadow_int_Back_2) (K : AV → List AE.Obj → Ans) : Ans := bindO (fnDshadow_Shadow_int_Back_2 a) fun y => outshadow_Shadow_int_Back_2 a K y
def Fshadow_Shadow_int_Back_2 : List AV → List AE.Obj → (AV → List AE.Obj → Ans) → Ans := fun l H K => bindO (decAshadow_Shadow_int_Back_2 l H) fun a => vFshadow_Shadow_int_Back_2 a K
theorem Fshadow_Shadow_int_Back_2_ok : FuncOk Try.prog 18 Fshadow_Shadow_int_Back_2 := func_mkD (hint := noHint) (d := 0) (n := 70) mixed tabOk envshadow_Shadow_int_Back_2Ok Try.func18 (bodySome (by kernel_rfl)) (by decide +kernel) annshadow_Shadow_int_Back_2_ok decAshadow_Shadow_int_Back_2_ok fnshadow_Shadow_int_Back_2_ok fnshadow_Shadow_int_Back_2_nat
--@ shadow_Shadow_int_Clear_2
noncomputable def envshadow_Shadow_int_Clear_2 : Env := []
theorem envshadow_Shadow_int_Clear_2Ok : EnvOk Try.prog envshadow_Shadow_int_Clear_2 := EnvOk.nil
noncomputable def bshadow_Shadow_int_Clear_2 : Code := Try.f19.body.getD .skip
noncomputable def annshadow_Shadow_int_Clear_2 : Ann := .none
theorem annshadow_Shadow_int_Clear_2_ok : AnnOk Try.prog 8 bshadow_Shadow_int_Clear_2 annshadow_Shadow_int_Clear_2 := (annOk_none _ _ _)
abbrev Ashadow_Shadow_int_Clear_2 := Unit
abbrev Yshadow_Shadow_int_Clear_2 := Unit
def fnshadow_Shadow_int_Clear_2 {β : Type} : Ashadow_Shadow_int_Clear_2 → (Yshadow_Shadow_int_Clear_2 → Option β) → Option β := fun _ exit => (exit ())
def fnDshadow_Shadow_int_Clear_2 (a : Ashadow_Shadow_int_Clear_2) : Option Yshadow_Shadow_int_Clear_2 := fnshadow_Shadow_int_Clear_2 a some
theorem fnshadow_Shadow_int_Clear_2_nat (a : Ashadow_Shadow_int_Clear_2) (k : Yshadow_Shadow_int_Clear_2 → Ans) : fnshadow_Shadow_int_Clear_2 a k = bindO (fnDshadow_Shadow_int_Clear_2 a) k := by
  obtain z := a
  simp only [fnDshadow_Shadow_int_Clear_2, fnshadow_Shadow_int_Clear_2, bindO_cond, bindO_assoc, bindO_none, bindO_pure, bindO_elim, bindO_unP, bindO_empty]
def argsshadow_Shadow_int_Clear_2 : Ashadow_Shadow_int_Clear_2 → List AV × List AE.Obj := fun _ => ([AV.nilp], [])
def decAshadow_Shadow_int_Clear_2 (l : List AV) (H : List AE.Obj) : Option Ashadow_Shadow_int_Clear_2 := match l, H with
  | [AV.nilp], [] => some ()
  | _, _ => none
theorem decAshadow_Shadow_int_Clear_2_ok (l : List AV) (H : List AE.Obj) (a : Ashadow_Shadow_int_Clear_2) (h : decAshadow_Shadow_int_Clear_2 l H = some a) : (l, H) = argsshadow_Shadow_int_Clear_2 a := by
  unfold decAshadow_Shadow_int_Clear_2 at h
  split at h
  · cases h; rfl
  · cases h
def outshadow_Shadow_int_Clear_2 : Ashadow_Shadow_int_Clear_2 → (AV → List AE.Obj → Ans) → Yshadow_Shadow_int_Clear_2 → Ans := fun _ K => fun _ => K (AV.tup []) []
theorem fnshadow_Shadow_int_Clear_2_ok (a : Ashadow_Shadow_int_Clear_2) (K : AV → List AE.Obj → Ans) : fnE Try.tab envshadow_Shadow_int_Clear_2 noHint 0 70 19 Try.f19.ntmps Try.f19.results.toList annshadow_Shadow_int_Clear_2 bshadow_Shadow_int_Clear_2 (argsshadow_Shadow_int_Clear_2 a).1 (argsshadow_Shadow_int_Clear_2 a).2 K = fnshadow_Shadow_int_Clear_2 a (outshadow_Shadow_int_Clear_2 a K) := by kernel_rfl
def vFshadow_Shadow_int_Clear_2 (a : Ashadow_Shadow_int_Clear_2) (K : AV → List AE.Obj → Ans) : Ans := bindO (fnDshadow_Shadow_int_Clear_2 a) fun y => outshadow_Shadow_int_Clear_2 a K y
def Fshadow_Shadow_int_Clear_2 : List AV → List AE.Obj → (AV → List AE.Obj → Ans) → Ans := fun l H K => bindO (decAshadow_Shadow_int_Clear_2 l H) fun a => vFshadow_Shadow_int_Clear_2 a K
theorem Fshadow_Shadow_int_Clear_2_ok : FuncOk Try.prog 19 Fshadow_Shadow_int_Clear_2 := func_mkD (hint := noHint) (d := 0) (n := 70) mixed tabOk envshadow_Shadow_int_Clear_2Ok Try.func19 (bodySome (by kernel_rfl)) (by decide +kernel) annshadow_Shadow_int_Clear_2_ok decAshadow_Shadow_int_Clear_2_ok fnshadow_Shadow_int_Clear_2_ok fnshadow_Shadow_int_Clear_2_nat
--@ shadow_Shadow_int_Get_2
noncomputable def envshadow_Shadow_int_Get_2 : Env := []
theorem envshadow_Shadow_int_Get_2Ok : EnvOk Try.prog envshadow_Shadow_int_Get_2 := EnvOk.nil
noncomputable def bshadow_Shadow_int_Get_2 : Code := Try.f20.body.getD .skip
noncomputable def annshadow_Shadow_int_Get_2 : Ann := .none
theorem annshadow_Shadow_int_Get_2_ok : AnnOk Try.prog 36 bshadow_Shadow_int_Get_2 annshadow_Shadow_int_Get_2 := (annOk_none _ _ _)
abbrev Ashadow_Shadow_int_Get_2 := (Int)
abbrev Yshadow_Shadow_int_Get_2 := Unit
def fnshadow_Shadow_int_Get_2 {β : Type} : Ashadow_Shadow_int_Get_2 → (Yshadow_Shadow_int_Get_2 → Option β) → Option β := fun a1 exit => (exit ())
def fnDshadow_Shadow_int_Get_2 (a : Ashadow_Shadow_int_Get_2) : Option Yshadow_Shadow_int_Get_2 := fnshadow_Shadow_int_Get_2 a some
theorem fnshadow_Shadow_int_Get_2_nat (a : Ashadow_Shadow_int_Get_2) (k : Yshadow_Shadow_int_Get_2 → Ans) : fnshadow_Shadow_int_Get_2 a k = bindO (fnDshadow_Shadow_int_Get_2 a) k := by
  obtain z := a
  simp only [fnDshadow_Shadow_int_Get_2, fnshadow_Shadow_int_Get_2, bindO_cond, bindO_assoc, bindO_none, bindO_pure, bindO_elim, bindO_unP, bindO_empty]
def argsshadow_Shadow_int_Get_2 : Ashadow_Shadow_int_Get_2 → List AV × List AE.Obj := fun a1 => ([AV.nilp, AV.int IntKind.i64 a1], [])
def decAshadow_Shadow_int_Get_2 (l : List AV) (H : List AE.Obj) : Option Ashadow_Shadow_int_Get_2 := match l, H with
  | [AV.nilp, AV.int IntKind.i64 a1], [] => some (a1)
  | _, _ => none
theorem decAshadow_Shadow_int_Get_2_ok (l : List AV) (H : List AE.Obj) (a : Ashadow_Shadow_int_Get_2) (h : decAshadow_Shadow_int_Get_2 l H = some a) : (l, H) = argsshadow_Shadow_int_Get_2 a := by
  unfold decAshadow_Shadow_int_Get_2 at h
  split at h
  · cases h; rfl
  · cases h
def outshadow_Shadow_int_Get_2 : Ashadow_Shadow_int_Get_2 → (AV → List AE.Obj → Ans) → Yshadow_Shadow_int_Get_2 → Ans := fun a1 K => fun _ => K (AV.tup [AV.int IntKind.i64 (0), AV.bool (false)]) []
theorem fnshadow_Shadow_int_Get_2_ok (a : Ashadow_Shadow_int_Get_2) (K : AV → List AE.Obj → Ans) : fnE Try.tab envshadow_Shadow_int_Get_2 noHint 0 70 20 Try.f20.ntmps Try.f20.results.toList annshadow_Shadow_int_Get_2 bshadow_Shadow_int_Get_2 (argsshadow_Shadow_int_Get_2 a).1 (argsshadow_Shadow_int_Get_2 a).2 K = fnshadow_Shadow_int_Get_2 a (outshadow_Shadow_int_Get_2 a K) := by kernel_rfl
def vFshadow_Shadow_int_Get_2 (a : Ashadow_Shadow_int_Get_2) (K : AV → List AE.Obj → Ans) : Ans := bindO (fnDshadow_Shadow_int_Get_2 a) fun y => outshadow_Shadow_int_Get_2 a K y
def Fshadow_Shadow_int_Get_2 : List AV → List AE.Obj → (AV → List AE.Obj → Ans) → Ans := fun l H K => bindO (decAshadow_Shadow_int_Get_2 l H) fun a => vFshadow_Shadow_int_Get_2 a K
theorem Fshadow_Shadow_int_Get_2_ok : FuncOk Try.prog 20 Fshadow_Shadow_int_Get_2 := func_mkD (hint := noHint) (d := 0) (n := 70) mixed tabOk envshadow_Shadow_int_Get_2Ok Try.func20 (bodySome (by kernel_rfl)) (by decide +kernel) annshadow_Shadow_int_Get_2_ok decAshadow_Shadow_int_Get_2_ok fnshadow_Shadow_int_Get_2_ok fnshadow_Shadow_int_Get_2_nat
end Go.Proofs.R6
namespace Go.Proofs.R6
open Go Go.AE
--@ shadow_Shadow_int_Loose_2
noncomputable def envshadow_Shadow_int_Loose_2 : Env := []
theorem envshadow_Shadow_int_Loose_2Ok : EnvOk Try.prog envshadow_Shadow_int_Loose_2 := EnvOk.nil
noncomputable def bshadow_Shadow_int_Loose_2 : Code := Try.f22.body.getD .skip
noncomputable def annshadow_Shadow_int_Loose_2 : Ann := .none
theorem annshadow_Shadow_int_Loose_2_ok : AnnOk Try.prog 10 bshadow_Shadow_int_Loose_2 annshadow_Shadow_int_Loose_2 := (annOk_none _ _ _)
abbrev Ashadow_Shadow_int_Loose_2 := Unit
abbrev Yshadow_Shadow_int_Loose_2 := Unit
def fnshadow_Shadow_int_Loose_2 {β : Type} : Ashadow_Shadow_int_Loose_2 → (Yshadow_Shadow_int_Loose_2 → Option β) → Option β := fun _ exit => (exit ())
def fnDshadow_Shadow_int_Loose_2 (a : Ashadow_Shadow_int_Loose_2) : Option Yshadow_Shadow_int_Loose_2 := fnshadow_Shadow_int_Loose_2 a some
theorem fnshadow_Shadow_int_Loose_2_nat (a : Ashadow_Shadow_int_Loose_2) (k : Yshadow_Shadow_int_Loose_2 → Ans) : fnshadow_Shadow_int_Loose_2 a k = bindO (fnDshadow_Shadow_int_Loose_2 a) k := by
  obtain z := a
  simp only [fnDshadow_Shadow_int_Loose_2, fnshadow_Shadow_int_Loose_2, bindO_cond, bindO_assoc, bindO_none, bindO_pure, bindO_elim, bindO_unP, bindO_empty]
def argsshadow_Shadow_int_Loose_2 : Ashadow_Shadow_int_Loose_2 → List AV × List AE.Obj := fun _ => ([AV.nilp], [])
def decAshadow_Shadow_int_Loose_2 (l : List AV) (H : List AE.Obj) : Option Ashadow_Shadow_int_Loose_2 := match l, H with
  | [AV.nilp], [] => some ()
  | _, _ => none
theorem decAshadow_Shadow_int_Loose_2_ok (l : List AV) (H : List AE.Obj) (a : Ashadow_Shadow_int_Loose_2) (h : decAshadow_Shadow_int_Loose_2 l H = some a) : (l, H) = argsshadow_Shadow_int_Loose_2 a := by
  unfold decAshadow_Shadow_int_Loose_2 at h
  split at h
  · cases h; rfl
  · cases h
def outshadow_Shadow_int_Loose_2 : Ashadow_Shadow_int_Loose_2 → (AV → List AE.Obj → Ans) → Yshadow_Shadow_int_Loose_2 → Ans := fun _ K => fun _ => K (AV.int IntKind.i64 (0)) []
theorem fnshadow_Shadow_int_Loose_2_ok (a : Ashadow_Shadow_int_Loose_2) (K : AV → List AE.Obj → Ans) : fnE Try.tab envshadow_Shadow_int_Loose_2 noHint 0 70 22 Try.f22.ntmps Try.f22.results.toList annshadow_Shadow_int_Loose_2 bshadow_Shadow_int_Loose_2 (argsshadow_Shadow_int_Loose_2 a).1 (argsshadow_Shadow_int_Loose_2 a).2 K = fnshadow_Shadow_int_Loose_2 a (outshadow_Shadow_int_Loose_2 a K) := by kernel_rfl
def vFshadow_Shadow_int_Loose_2 (a : Ashadow_Shadow_int_Loose_2) (K : AV → List AE.Obj → Ans) : Ans := bindO (fnDshadow_Shadow_int_Loose_2 a) fun y => outshadow_Shadow_int_Loose_2 a K y
def Fshadow_Shadow_int_Loose_2 : List AV → List AE.Obj → (AV → List AE.Obj → Ans) → Ans := fun l H K => bindO (decAshadow_Shadow_int_Loose_2 l H) fun a => vFshadow_Shadow_int_Loose_2 a K
theorem Fshadow_Shadow_int_Loose_2_ok : FuncOk Try.prog 22 Fshadow_Shadow_int_Loose_2 := func_mkD (hint := noHint) (d := 0) (n := 70) mixed tabOk envshadow_Shadow_int_Loose_2Ok Try.func22 (bodySome (by kernel_rfl)) (by decide +kernel) annshadow_Shadow_int_Loose_2_ok decAshadow_Shadow_int_Loose_2_ok fnshadow_Shadow_int_Loose_2_ok fnshadow_Shadow_int_Loose_2_nat
--@ shadow_layer_int_each_2
noncomputable def envshadow_layer_int_each_2 : Env := []
theorem envshadow_layer_int_each_2Ok : EnvOk Try.prog envshadow_layer_int_each_2 := EnvOk.nil
noncomputable def bshadow_layer_int_each_2 : Code := Try.f30.body.getD .skip
noncomputable def annshadow_layer_int_each_2 : Ann := .none
theorem annshadow_layer_int_each_2_ok : AnnOk Try.prog 4 bshadow_layer_int_each_2 annshadow_layer_int_each_2 := (annOk_none _ _ _)
abbrev Ashadow_layer_int_each_2 := Unit
abbrev Yshadow_layer_int_each_2 := Unit
def fnshadow_layer_int_each_2 {β : Type} : Ashadow_layer_int_each_2 → (Yshadow_layer_int_each_2 → Option β) → Option β := fun _ exit => (exit ())
def fnDshadow_layer_int_each_2 (a : Ashadow_layer_int_each_2) : Option Yshadow_layer_int_each_2 := fnshadow_layer_int_each_2 a some
theorem fnshadow_layer_int_each_2_nat (a : Ashadow_layer_int_each_2) (k : Yshadow_layer_int_each_2 → Ans) : fnshadow_layer_int_each_2 a k = bindO (fnDshadow_layer_int_each_2 a) k := by
  obtain z := a
  simp only [fnDshadow_layer_int_each_2, fnshadow_layer_int_each_2, bindO_cond, bindO_assoc, bindO_none, bindO_pure, bindO_elim, bindO_unP, bindO_empty]
def argsshadow_layer_int_each_2 : Ashadow_layer_int_each_2 → List AV × List AE.Obj := fun _ => ([AV.nilm], [])
def decAshadow_layer_int_each_2 (l : List AV) (H : List AE.Obj) : Option Ashadow_layer_int_each_2 := match l, H with
  | [AV.nilm], [] => some ()
  | _, _ => none
theorem decAshadow_layer_int_each_2_ok (l : List AV) (H : List AE.Obj) (a : Ashadow_layer_int_each_2) (h : decAshadow_layer_int_each_2 l H = some a) : (l, H) = argsshadow_layer_int_each_2 a := by
  unfold decAshadow_layer_int_each_2 at h
  split at h
  · cases h; rfl
  · cases h
def outshadow_layer_int_each_2 : Ashadow_layer_int_each_2 → (AV → List AE.Obj → Ans) → Yshadow_layer_int_each_2 → Ans := fun _ K => fun _ => K (AV.fn (Fn.func 35) [] [AV.ptr 0 0]) [AE.Obj.cells [AV.nilm]]
theorem fnshadow_layer_int_each_2_ok (a : Ashadow_layer_int_each_2) (K : AV → List AE.Obj → Ans) : fnE Try.tab envshadow_layer_int_each_2 noHint 0 70 30 Try.f30.ntmps Try.f30.results.toList annshadow_layer_int_each_2 bshadow_layer_int_each_2 (argsshadow_layer_int_each_2 a).1 (argsshadow_layer_int_each_2 a).2 K = fnshadow_layer_int_each_2 a (outshadow_layer_int_each_2 a K) := by kernel_rfl
def vFshadow_layer_int_each_2 (a : Ashadow_layer_int_each_2) (K : AV → List AE.Obj → Ans) : Ans := bindO (fnDshadow_layer_int_each_2 a) fun y => outshadow_layer_int_each_2 a K y
def Fshadow_layer_int_each_2 : List AV → List AE.Obj → (AV → List AE.Obj → Ans) → Ans := fun l H K => bindO (decAshadow_layer_int_each_2 l H) fun a => vFshadow_layer_int_each_2 a K
theorem Fshadow_layer_int_each_2_ok : FuncOk Try.prog 30 Fshadow_layer_int_each_2 := func_mkD (hint := noHint) (d := 0) (n := 70) mixed tabOk envshadow_layer_int_each_2Ok Try.func30 (bodySome (by kernel_rfl)) (by decide +kernel) annshadow_layer_int_each_2_ok decAshadow_layer_int_each_2_ok fnshadow_layer_int_each_2_ok fnshadow_layer_int_each_2_nat
--@ shadow_Shadow_int_Fresh_2
noncomputable def envshadow_Shadow_int_Fresh_2 : Env := [(30, .func Fshadow_layer_int_each_2)]
theorem envshadow_Shadow_int_Fresh_2Ok : EnvOk Try.prog envshadow_Shadow_int_Fresh_2 := EnvOk.cons Fshadow_layer_int_each_2_ok (EnvOk.nil)
noncomputable def bshadow_Shadow_int_Fresh_2 : Code := Try.f24.body.getD .skip
noncomputable def annshadow_Shadow_int_Fresh_2 : Ann := .none
theorem annshadow_Shadow_int_Fresh_2_ok : AnnOk Try.prog 11 bshadow_Shadow_int_Fresh_2 annshadow_Shadow_int_Fresh_2 := (annOk_none _ _ _)
abbrev Ashadow_Shadow_int_Fresh_2 := Unit
abbrev Yshadow_Shadow_int_Fresh_2 := Unit
def fnshadow_Shadow_int_Fresh_2 {β : Type} : Ashadow_Shadow_int_Fresh_2 → (Yshadow_Shadow_int_Fresh_2 → Option β) → Option β := fun _ exit => (bindO (fnDshadow_layer_int_each_2 ()) fun _ => (exit ()))
def fnDshadow_Shadow_int_Fresh_2 (a : Ashadow_Shadow_int_Fresh_2) : Option Yshadow_Shadow_int_Fresh_2 := fnshadow_Shadow_int_Fresh_2 a some
theorem fnshadow_Shadow_int_Fresh_2_nat (a : Ashadow_Shadow_int_Fresh_2) (k : Yshadow_Shadow_int_Fresh_2 → Ans) : fnshadow_Shadow_int_Fresh_2 a k = bindO (fnDshadow_Shadow_int_Fresh_2 a) k := by
  obtain z := a
  simp only [fnDshadow_Shadow_int_Fresh_2, fnshadow_Shadow_int_Fresh_2, bindO_cond, bindO_assoc, bindO_none, bindO_pure, bindO_elim, bindO_unP, bindO_empty]
def argsshadow_Shadow_int_Fresh_2 : Ashadow_Shadow_int_Fresh_2 → List AV × List AE.Obj := fun _ => ([AV.nilp], [])
def decAshadow_Shadow_int_Fresh_2 (l : List AV) (H : List AE.Obj) : Option Ashadow_Shadow_int_Fresh_2 := match l, H with
  | [AV.nilp], [] => some ()
  | _, _ => none
theorem decAshadow_Shadow_int_Fresh_2_ok (l : List AV) (H : List AE.Obj) (a : Ashadow_Shadow_int_Fresh_2) (h : decAshadow_Shadow_int_Fresh_2 l H = some a) : (l, H) = argsshadow_Shadow_int_Fresh_2 a := by
  unfold decAshadow_Shadow_int_Fresh_2 at h
  split at h
  · cases h; rfl
  · cases h
def outshadow_Shadow_int_Fresh_2 : Ashadow_Shadow_int_Fresh_2 → (AV → List AE.Obj → Ans) → Yshadow_Shadow_int_Fresh_2 → Ans := fun _ K => fun _ => K (AV.fn (Fn.func 35) [] [AV.ptr 0 0]) [AE.Obj.cells [AV.nilm]]
theorem fnshadow_Shadow_int_Fresh_2_ok (a : Ashadow_Shadow_int_Fresh_2) (K : AV → List AE.Obj → Ans) : fnE Try.tab envshadow_Shadow_int_Fresh_2 noHint 0 70 24 Try.f24.ntmps Try.f24.results.toList annshadow_Shadow_int_Fresh_2 bshadow_Shadow_int_Fresh_2 (argsshadow_Shadow_int_Fresh_2 a).1 (argsshadow_Shadow_int_Fresh_2 a).2 K = fnshadow_Shadow_int_Fresh_2 a (outshadow_Shadow_int_Fresh_2 a K) := by kernel_rfl
def vFshadow_Shadow_int_Fresh_2 (a : Ashadow_Shadow_int_Fresh_2) (K : AV → List AE.Obj → Ans) : Ans := bindO (fnDshadow_Shadow_int_Fresh_2 a) fun y => outshadow_Shadow_int_Fresh_2 a K y
def Fshadow_Shadow_int_Fresh_2 : List AV → List AE.Obj → (AV → List AE.Obj → Ans) → Ans := fun l H K => bindO (decAshadow_Shadow_int_Fresh_2 l H) fun a => vFshadow_Shadow_int_Fresh_2 a K
theorem Fshadow_Shadow_int_Fresh_2_ok : FuncOk Try.prog 24 Fshadow_Shadow_int_Fresh_2 := func_mkD (hint := noHint) (d := 0) (n := 70) mixed tabOk envshadow_Shadow_int_Fresh_2Ok Try.func24 (bodySome (by kernel_rfl)) (by decide +kernel) annshadow_Shadow_int_Fresh_2_ok decAshadow_Shadow_int_Fresh_2_ok fnshadow_Shadow_int_Fresh_2_ok fnshadow_Shadow_int_Fresh_2_nat
--@ law13_same_2
noncomputable def envlaw13_same_2 : Env := [(35, .func Feach_same_nil)]
theorem envlaw13_same_2Ok : EnvOk Try.prog envlaw13_same_2 := EnvOk.cons Feach_same_nil_ok (EnvOk.nil)
noncomputable def blaw13_same_2 : Code := Try.f23.body.getD .skip
noncomputable def Llaw13_same_2_n0 : Code := codeAt [1, 1, 1, 1, 0] blaw13_same_2
noncomputable def annLlaw13_same_2_n0 : Ann := .none
theorem annLlaw13_same_2_n0_ok : AnnOk Try.prog 22 Llaw13_same_2_n0 annLlaw13_same_2_n0 := (annOk_none _ _ _)
abbrev Ilaw13_same_2_n0 := (Int) × (Int) × (Bool) × (List (Int × Int))
abbrev Ylaw13_same_2_n0 := (Bool)
def Slaw13_same_2_n0 : Ilaw13_same_2_n0 → St := fun (o2_0, o3_0, o4_0, o5) => { env := [(4, AV.ptr 1 0), (5, AV.ptr 2 0), (7, AV.ptr 3 0), (8, AV.ptr 4 0)], stk := [[(0, AV.ptr 0 0)]], H := [AE.Obj.cells [AV.nilm], AE.Obj.cells [AV.own 5], AE.Obj.cells [AV.int IntKind.i64 o2_0], AE.Obj.cells [AV.int IntKind.i64 o3_0], AE.Obj.cells [AV.bool o4_0], Obj.arr (Ty.st (Ty.pair (Ty.int IntKind.i64) (Ty.int IntKind.i64))) o5], blk := 94208 }
def declaw13_same_2_n0 (s : St) : Option Ilaw13_same_2_n0 := match s with
  | { env := [(4, AV.ptr 1 0), (5, AV.ptr 2 0), (7, AV.ptr 3 0), (8, AV.ptr 4 0)], stk := [[(0, AV.ptr 0 0)]], H := [AE.Obj.cells [AV.nilm], AE.Obj.cells [AV.own 5], AE.Obj.cells [AV.int IntKind.i64 o2_0], AE.Obj.cells [AV.int IntKind.i64 o3_0], AE.Obj.cells [AV.bool o4_0], Obj.arr (Ty.st (Ty.pair (Ty.int IntKind.i64) (Ty.int IntKind.i64))) o5], blk := 94208 } => some (o2_0, o3_0, o4_0, o5)
  | _ => none
theorem declaw13_same_2_n0_ok (s : St) (x : Ilaw13_same_2_n0) (h : declaw13_same_2_n0 s = some x) : s = Slaw13_same_2_n0 x := by
  unfold declaw13_same_2_n0 at h
  split at h
  · cases h; rfl
  · cases h
def outlaw13_same_2_n0 : Ilaw13_same_2_n0 → (Ex → St → Ans) → Ylaw13_same_2_n0 → Ans := fun (o2_0, o3_0, o4_0, o5) K => fun t6_y => K (Ex.norm) { env := [(6, AV.bool t6_y)], stk := [[(0, AV.ptr 0 0)]], H := [AE.Obj.cells [AV.nilm]], blk := 94208 }
def nodelaw13_same_2_n0 {β : Type} : Ilaw13_same_2_n0 → (Ylaw13_same_2_n0 → Option β) → Option β := fun (o2_0, o3_0, o4_0, o5) exit => (bif o4_0 then (exit (o3_0 == if (if (1 : Int) > o2_0 then (1 : Int) else o2_0) < (↑(List.length o5) : Int) then if (1 : Int) > o2_0 then (1 : Int) else o2_0 else (↑(List.length o5) : Int))) else (exit (false)))
def nodeDlaw13_same_2_n0 (i : Ilaw13_same_2_n0) : Option Ylaw13_same_2_n0 := nodelaw13_same_2_n0 i some
theorem nodelaw13_same_2_n0_nat (i : Ilaw13_same_2_n0) (k : Ylaw13_same_2_n0 → Ans) : nodelaw13_same_2_n0 i k = bindO (nodeDlaw13_same_2_n0 i) k := by
  obtain ⟨o2_0, o3_0, o4_0, o5⟩ := i
  simp only [nodeDlaw13_same_2_n0, nodelaw13_same_2_n0, bindO_cond, bindO_assoc, bindO_none, bindO_pure, bindO_elim, bindO_unP, bindO_empty]
theorem nodelaw13_same_2_n0_ok (i : Ilaw13_same_2_n0) (K : Ex → St → Ans) : codeI Try.tab envlaw13_same_2 noHint (codeD Try.tab envlaw13_same_2 noHint 0 64) 70 22 annLlaw13_same_2_n0 Llaw13_same_2_n0 (weakP 1 (exk [6] [6] []) K) (Slaw13_same_2_n0 i) = nodelaw13_same_2_n0 i (outlaw13_same_2_n0 i K) := by kernel_rfl
theorem GNlaw13_same_2_n0_ok : CSum Try.prog 22 Llaw13_same_2_n0 (sumN declaw13_same_2_n0 nodeDlaw13_same_2_n0 outlaw13_same_2_n0) := csum_node mixed tabOk envlaw13_same_2Ok 1 (exk [6] [6] []) annLlaw13_same_2_n0_ok declaw13_same_2_n0_ok nodelaw13_same_2_n0_ok nodelaw13_same_2_n0_nat
noncomputable def Glaw13_same_2_n0 : (Ex → St → Ans) → St → Ans := (sumN declaw13_same_2_n0 nodeDlaw13_same_2_n0 outlaw13_same_2_n0)
theorem Glaw13_same_2_n0_ok : CSum Try.prog 22 Llaw13_same_2_n0 Glaw13_same_2_n0 := GNlaw13_same_2_n0_ok
noncomputable def annlaw13_same_2 : Ann := (.seq .none (.seq .none (.seq .none (.seq .none (.seq (.cut 1 [4, 5, 7, 8] Glaw13_same_2_n0) .none)))))
theorem annlaw13_same_2_ok : AnnOk Try.prog 22 blaw13_same_2 annlaw13_same_2 := ⟨(annOk_none _ _ _), ⟨(annOk_none _ _ _), ⟨(annOk_none _ _ _), ⟨(annOk_none _ _ _), ⟨Glaw13_same_2_n0_ok, (annOk_none _ _ _)⟩⟩⟩⟩⟩
abbrev Alaw13_same_2 := (Int)
abbrev Ylaw13_same_2 := (Bool)
def fnlaw13_same_2 {β : Type} : Alaw13_same_2 → (Ylaw13_same_2 → Option β) → Option β := fun a2 exit => (bindO (fnDeach_same_nil (true, (0 : Int), a2, [])) (unP fun o0_0 => unP fun o1_0 => unP fun o3_0 o5 => (bindO (nodeDlaw13_same_2_n0 (o3_0, o1_0, o0_0, o5)) fun t6 => (exit (t6)))))
def fnDlaw13_same_2 (a : Alaw13_same_2) : Option Ylaw13_same_2 := fnlaw13_same_2 a some
theorem fnlaw13_same_2_nat (a : Alaw13_same_2) (k : Ylaw13_same_2 → Ans) : fnlaw13_same_2 a k = bindO (fnDlaw13_same_2 a) k := by
  obtain z := a
  simp only [fnDlaw13_same_2, fnlaw13_same_2, bindO_cond, bindO_assoc, bindO_none, bindO_pure, bindO_elim, bindO_unP, bindO_empty]
def argslaw13_same_2 : Alaw13_same_2 → List AV × List AE.Obj := fun a2 => ([AV.fn (Fn.func 35) [] [AV.ptr 0 0], AV.nils, AV.int IntKind.i64 a2], [AE.Obj.cells [AV.nilm]])
def decAlaw13_same_2 (l : List AV) (H : List AE.Obj) : Option Alaw13_same_2 := match l, H with
  | [AV.fn (Fn.func 35) [] [AV.ptr 0 0], AV.nils, AV.int IntKind.i64 a2], [AE.Obj.cells [AV.nilm]] => some (a2)
  | _, _ => none
theorem decAlaw13_same_2_ok (l : List AV) (H : List AE.Obj) (a : Alaw13_same_2) (h : decAlaw13_same_2 l H = some a) : (l, H) = argslaw13_same_2 a := by
  unfold decAlaw13_same_2 at h
  split at h
  · cases h; rfl
  · cases h
def outlaw13_same_2 : Alaw13_same_2 → (AV → List AE.Obj → Ans) → Ylaw13_same_2 → Ans := fun a2 K => fun r_y => K (AV.bool r_y) [AE.Obj.cells [AV.nilm]]
theorem fnlaw13_same_2_ok (a : Alaw13_same_2) (K : AV → List AE.Obj → Ans) : fnE Try.tab envlaw13_same_2 noHint 0 70 23 Try.f23.ntmps Try.f23.results.toList annlaw13_same_2 blaw13_same_2 (argslaw13_same_2 a).1 (argslaw13_same_2 a).2 K = fnlaw13_same_2 a (outlaw13_same_2 a K) := by kernel_rfl
def vFlaw13_same_2 (a : Alaw13_same_2) (K : AV → List AE.Obj → Ans) : Ans := bindO (fnDlaw13_same_2 a) fun y => outlaw13_same_2 a K y
def Flaw13_same_2 : List AV → List AE.Obj → (AV → List AE.Obj → Ans) → Ans := fun l H K => bindO (decAlaw13_same_2 l H) fun a => vFlaw13_same_2 a K
theorem Flaw13_same_2_ok : FuncOk Try.prog 23 Flaw13_same_2 := func_mkD (hint := noHint) (d := 0) (n := 70) mixed tabOk envlaw13_same_2Ok Try.func23 (bodySome (by kernel_rfl)) (by decide +kernel) annlaw13_same_2_ok decAlaw13_same_2_ok fnlaw13_same_2_ok fnlaw13_same_2_nat
--@ shadow_Shadow_int_Kept_2
noncomputable def envshadow_Shadow_int_Kept_2 : Env := [(30, .func Fshadow_layer_int_each_2)]
theorem envshadow_Shadow_int_Kept_2Ok : EnvOk Try.prog envshadow_Shadow_int_Kept_2 := EnvOk.cons Fshadow_layer_int_each_2_ok (EnvOk.nil)
noncomputable def bshadow_Shadow_int_Kept_2 : Code := Try.f25.body.getD .skip
noncomputable def annshadow_Shadow_int_Kept_2 : Ann := .none
theorem annshadow_Shadow_int_Kept_2_ok : AnnOk Try.prog 11 bshadow_Shadow_int_Kept_2 annshadow_Shadow_int_Kept_2 := (annOk_none _ _ _)
abbrev Ashadow_Shadow_int_Kept_2 := Unit
abbrev Yshadow_Shadow_int_Kept_2 := Unit
def fnshadow_Shadow_int_Kept_2 {β : Type} : Ashadow_Shadow_int_Kept_2 → (Yshadow_Shadow_int_Kept_2 → Option β) → Option β := fun _ exit => (bindO (fnDshadow_layer_int_each_2 ()) fun _ => (exit ()))
def fnDshadow_Shadow_int_Kept_2 (a : Ashadow_Shadow_int_Kept_2) : Option Yshadow_Shadow_int_Kept_2 := fnshadow_Shadow_int_Kept_2 a some
theorem fnshadow_Shadow_int_Kept_2_nat (a : Ashadow_Shadow_int_Kept_2) (k : Yshadow_Shadow_int_Kept_2 → Ans) : fnshadow_Shadow_int_Kept_2 a k = bindO (fnDshadow_Shadow_int_Kept_2 a) k := by
  obtain z := a
  simp only [fnDshadow_Shadow_int_Kept_2, fnshadow_Shadow_int_Kept_2, bindO_cond, bindO_assoc, bindO_none, bindO_pure, bindO_elim, bindO_unP, bindO_empty]
def argsshadow_Shadow_int_Kept_2 : Ashadow_Shadow_int_Kept_2 → List AV × List AE.Obj := fun _ => ([AV.nilp], [])
def decAshadow_Shadow_int_Kept_2 (l : List AV) (H : List AE.Obj) : Option Ashadow_Shadow_int_Kept_2 := match l, H with
  | [AV.nilp], [] => some ()
  | _, _ => none
theorem decAshadow_Shadow_int_Kept_2_ok (l : List AV) (H : List AE.Obj) (a : Ashadow_Shadow_int_Kept_2) (h : decAshadow_Shadow_int_Kept_2 l H = some a) : (l, H) = argsshadow_Shadow_int_Kept_2 a := by
  unfold decAshadow_Shadow_int_Kept_2 at h
  split at h
  · cases h; rfl
  · cases h
def outshadow_Shadow_int_Kept_2 : Ashadow_Shadow_int_Kept_2 → (AV → List AE.Obj → Ans) → Yshadow_Shadow_int_Kept_2 → Ans := fun _ K => fun _ => K (AV.fn (Fn.func 35) [] [AV.ptr 0 0]) [AE.Obj.cells [AV.nilm]]
theorem fnshadow_Shadow_int_Kept_2_ok (a : Ashadow_Shadow_int_Kept_2) (K : AV → List AE.Obj → Ans) : fnE Try.tab envshadow_Shadow_int_Kept_2 noHint 0 70 25 Try.f25.ntmps Try.f25.results.toList annshadow_Shadow_int_Kept_2 bshadow_Shadow_int_Kept_2 (argsshadow_Shadow_int_Kept_2 a).1 (argsshadow_Shadow_int_Kept_2 a).2 K = fnshadow_Shadow_int_Kept_2 a (outshadow_Shadow_int_Kept_2 a K) := by kernel_rfl
def vFshadow_Shadow_int_Kept_2 (a : Ashadow_Shadow_int_Kept_2) (K : AV → List AE.Obj → Ans) : Ans := bindO (fnDshadow_Shadow_int_Kept_2 a) fun y => outshadow_Shadow_int_Kept_2 a K y
def Fshadow_Shadow_int_Kept_2 : List AV → List AE.Obj → (AV → List AE.Obj → Ans) → Ans := fun l H K => bindO (decAshadow_Shadow_int_Kept_2 l H) fun a => vFshadow_Shadow_int_Kept_2 a K
theorem Fshadow_Shadow_int_Kept_2_ok : FuncOk Try.prog 25 Fshadow_Shadow_int_Kept_2 := func_mkD (hint := noHint) (d := 0) (n := 70) mixed tabOk envshadow_Shadow_int_Kept_2Ok Try.func25 (bodySome (by kernel_rfl)) (by decide +kernel) annshadow_Shadow_int_Kept_2_ok decAshadow_Shadow_int_Kept_2_ok fnshadow_Shadow_int_Kept_2_ok fnshadow_Shadow_int_Kept_2_nat
--@ law13_ShadowNone
noncomputable def envlaw13_ShadowNone : Env := [(6, .pure Flaw13_works), (14, .func Fshadow_Shadow_int_Put_2), (16, .func Fshadow_Shadow_int_Keep_2), (18, .func Fshadow_Shadow_int_Back_2), (19, .func Fshadow_Shadow_int_Clear_2), (20, .func Fshadow_Shadow_int_Get_2), (22, .func Fshadow_Shadow_int_Loose_2), (24, .func Fshadow_Shadow_int_Fresh_2), (23, .func Flaw13_same_2), (25, .func Fshadow_Shadow_int_Kept_2)]
theorem envlaw13_ShadowNoneOk : EnvOk Try.prog envlaw13_ShadowNone := EnvOk.cons Flaw13_works_ok (EnvOk.cons Fshadow_Shadow_int_Put_2_ok (EnvOk.cons Fshadow_Shadow_int_Keep_2_ok (EnvOk.cons Fshadow_Shadow_int_Back_2_ok (EnvOk.cons Fshadow_Shadow_int_Clear_2_ok (EnvOk.cons Fshadow_Shadow_int_Get_2_ok (EnvOk.cons Fshadow_Shadow_int_Loose_2_ok (EnvOk.cons Fshadow_Shadow_int_Fresh_2_ok (EnvOk.cons Flaw13_same_2_ok (EnvOk.cons Fshadow_Shadow_int_Kept_2_ok (EnvOk.nil))))))))))
noncomputable def blaw13_ShadowNone : Code := Try.f5.body.getD .skip
noncomputable def Llaw13_ShadowNone_n0 : Code := codeAt [1, 1, 1, 1, 1, 1, 1, 1, 0] blaw13_ShadowNone
noncomputable def annLlaw13_ShadowNone_n0 : Ann := .none
theorem annLlaw13_ShadowNone_n0_ok : AnnOk Try.prog 47 Llaw13_ShadowNone_n0 annLlaw13_ShadowNone_n0 := (annOk_none _ _ _)
abbrev Ilaw13_ShadowNone_n0 := Unit
abbrev Ylaw13_ShadowNone_n0 := (Bool)
def Slaw13_ShadowNone_n0 : Ilaw13_ShadowNone_n0 → St := fun _ => { env := [(5, AV.nilp), (6, AV.int IntKind.i64 (0)), (7, AV.bool (false))], stk := [[]], H := [], blk := 20480 }
def declaw13_ShadowNone_n0 (s : St) : Option Ilaw13_ShadowNone_n0 := match s with
  | { env := [(5, AV.nilp), (6, AV.int IntKind.i64 r0), (7, AV.bool r1)], stk := [[]], H := [], blk := 20480 } => cond (decide (r0 = 0) && decide (r1 = false)) (some ()) none
  | _ => none
theorem declaw13_ShadowNone_n0_ok (s : St) (x : Ilaw13_ShadowNone_n0) (h : declaw13_ShadowNone_n0 s = some x) : s = Slaw13_ShadowNone_n0 x := by
  unfold declaw13_ShadowNone_n0 at h
  split at h
  · replace h := cond_noneO h; obtain ⟨hg, h⟩ := h; simp only [Bool.and_eq_true, decide_eq_true_eq] at hg; simp only [hg]; cases h; rfl
  · cases h
def outlaw13_ShadowNone_n0 : Ilaw13_ShadowNone_n0 → (Ex → St → Ans) → Ylaw13_ShadowNone_n0 → Ans := fun _ K => fun t4_y => K (Ex.norm) { env := [(4, AV.bool t4_y)], stk := [[]], H := [], blk := 20480 }
def nodelaw13_ShadowNone_n0 {β : Type} : Ilaw13_ShadowNone_n0 → (Ylaw13_ShadowNone_n0 → Option β) → Option β := fun _ exit => (bindO (fnDshadow_Shadow_int_Loose_2 ()) fun _ => (bindO (fnDshadow_Shadow_int_Fresh_2 ()) fun _ => (bindO (fnDlaw13_same_2 ((5 : Int))) fun r => (bif r then (bindO (fnDshadow_Shadow_int_Kept_2 ()) fun _ => (bindO (fnDlaw13_same_2 ((5 : Int))) fun r_2 => (exit (r_2)))) else (exit (false))))))
def nodeDlaw13_ShadowNone_n0 (i : Ilaw13_ShadowNone_n0) : Option Ylaw13_ShadowNone_n0 := nodelaw13_ShadowNone_n0 i some
theorem nodelaw13_ShadowNone_n0_nat (i : Ilaw13_ShadowNone_n0) (k : Ylaw13_ShadowNone_n0 → Ans) : nodelaw13_ShadowNone_n0 i k = bindO (nodeDlaw13_ShadowNone_n0 i) k := by
  obtain z := i
  simp only [nodeDlaw13_ShadowNone_n0, nodelaw13_ShadowNone_n0, bindO_cond, bindO_assoc, bindO_none, bindO_pure, bindO_elim, bindO_unP, bindO_empty]
theorem nodelaw13_ShadowNone_n0_ok (i : Ilaw13_ShadowNone_n0) (K : Ex → St → Ans) : codeI Try.tab envlaw13_ShadowNone noHint (codeD Try.tab envlaw13_ShadowNone noHint 0 64) 70 47 annLlaw13_ShadowNone_n0 Llaw13_ShadowNone_n0 (weakP 0 (exk [4] [4] []) K) (Slaw13_ShadowNone_n0 i) = nodelaw13_ShadowNone_n0 i (outlaw13_ShadowNone_n0 i K) := by kernel_rfl
theorem GNlaw13_ShadowNone_n0_ok : CSum Try.prog 47 Llaw13_ShadowNone_n0 (sumN declaw13_ShadowNone_n0 nodeDlaw13_ShadowNone_n0 outlaw13_ShadowNone_n0) := csum_node mixed tabOk envlaw13_ShadowNoneOk 0 (exk [4] [4] []) annLlaw13_ShadowNone_n0_ok declaw13_ShadowNone_n0_ok nodelaw13_ShadowNone_n0_ok nodelaw13_ShadowNone_n0_nat
noncomputable def Glaw13_ShadowNone_n0 : (Ex → St → Ans) → St → Ans := (sumN declaw13_ShadowNone_n0 nodeDlaw13_ShadowNone_n0 outlaw13_ShadowNone_n0)
theorem Glaw13_ShadowNone_n0_ok : CSum Try.prog 47 Llaw13_ShadowNone_n0 Glaw13_ShadowNone_n0 := GNlaw13_ShadowNone_n0_ok
noncomputable def annlaw13_ShadowNone : Ann := (.seq .none (.seq .none (.seq .none (.seq .none (.seq .none (.seq .none (.seq .none (.seq .none (.seq (.cut 0 [5, 6, 7] Glaw13_ShadowNone_n0) .none)))))))))
theorem annlaw13_ShadowNone_ok : AnnOk Try.prog 47 blaw13_ShadowNone annlaw13_ShadowNone := ⟨(annOk_none _ _ _), ⟨(annOk_none _ _ _), ⟨(annOk_none _ _ _), ⟨(annOk_none _ _ _), ⟨(annOk_none _ _ _), ⟨(annOk_none _ _ _), ⟨(annOk_none _ _ _), ⟨(annOk_none _ _ _), ⟨Glaw13_ShadowNone_n0_ok, (annOk_none _ _ _)⟩⟩⟩⟩⟩⟩⟩⟩⟩
abbrev Alaw13_ShadowNone := (Int) × (Int)
abbrev Ylaw13_ShadowNone := (Bool)
def fnlaw13_ShadowNone {β : Type} : Alaw13_ShadowNone → (Ylaw13_ShadowNone → Option β) → Option β := fun (a0, a1) exit => (bindO (fnDlaw13_works ()) fun r => (bif !r then (exit (false)) else (bindO (fnDshadow_Shadow_int_Put_2 (a0, a1)) fun _ => (bindO (fnDshadow_Shadow_int_Keep_2 ()) fun _ => (bindO (fnDshadow_Shadow_int_Back_2 ()) fun _ => (bindO (fnDshadow_Shadow_int_Clear_2 ()) fun _ => (bindO (fnDshadow_Shadow_int_Get_2 (a0)) fun _ => (bindO (nodeDlaw13_ShadowNone_n0 ()) fun t4 => (exit (t4))))))))))
def fnDlaw13_ShadowNone (a : Alaw13_ShadowNone) : Option Ylaw13_ShadowNone := fnlaw13_ShadowNone a some
theorem fnlaw13_ShadowNone_nat (a : Alaw13_ShadowNone) (k : Ylaw13_ShadowNone → Ans) : fnlaw13_ShadowNone a k = bindO (fnDlaw13_ShadowNone a) k := by
  obtain ⟨a0, a1⟩ := a
  simp only [fnDlaw13_ShadowNone, fnlaw13_ShadowNone, bindO_cond, bindO_assoc, bindO_none, bindO_pure, bindO_elim, bindO_unP, bindO_empty]
def argslaw13_ShadowNone : Alaw13_ShadowNone → List AV × List AE.Obj := fun (a0, a1) => ([AV.int IntKind.i64 a0, AV.int IntKind.i64 a1], [])
def decAlaw13_ShadowNone (l : List AV) (H : List AE.Obj) : Option Alaw13_ShadowNone := match l, H with
  | [AV.int IntKind.i64 a0, AV.int IntKind.i64 a1], [] => some (a0, a1)
  | _, _ => none
theorem decAlaw13_ShadowNone_ok (l : List AV) (H : List AE.Obj) (a : Alaw13_ShadowNone) (h : decAlaw13_ShadowNone l H = some a) : (l, H) = argslaw13_ShadowNone a := by
  unfold decAlaw13_ShadowNone at h
  split at h
  · cases h; rfl
  · cases h
def outlaw13_ShadowNone : Alaw13_ShadowNone → (AV → List AE.Obj → Ans) → Ylaw13_ShadowNone → Ans := fun (a0, a1) K => fun r_y => K (AV.bool r_y) []
theorem fnlaw13_ShadowNone_ok (a : Alaw13_ShadowNone) (K : AV → List AE.Obj → Ans) : fnE Try.tab envlaw13_ShadowNone noHint 0 70 5 Try.f5.ntmps Try.f5.results.toList annlaw13_ShadowNone blaw13_ShadowNone (argslaw13_ShadowNone a).1 (argslaw13_ShadowNone a).2 K = fnlaw13_ShadowNone a (outlaw13_ShadowNone a K) := by kernel_rfl
def vFlaw13_ShadowNone (a : Alaw13_ShadowNone) (K : AV → List AE.Obj → Ans) : Ans := bindO (fnDlaw13_ShadowNone a) fun y => outlaw13_ShadowNone a K y
def Flaw13_ShadowNone : List AV → List AE.Obj → (AV → List AE.Obj → Ans) → Ans := fun l H K => bindO (decAlaw13_ShadowNone l H) fun a => vFlaw13_ShadowNone a K
theorem Flaw13_ShadowNone_ok : FuncOk Try.prog 5 Flaw13_ShadowNone := func_mkD (hint := noHint) (d := 0) (n := 70) mixed tabOk envlaw13_ShadowNoneOk Try.func5 (bodySome (by kernel_rfl)) (by decide +kernel) annlaw13_ShadowNone_ok decAlaw13_ShadowNone_ok fnlaw13_ShadowNone_ok fnlaw13_ShadowNone_nat
end Go.Proofs.R6

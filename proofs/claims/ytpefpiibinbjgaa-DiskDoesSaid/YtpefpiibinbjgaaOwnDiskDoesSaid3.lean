/- What the functions that DiskDoesSaid reaches compute: part 3. -/
import Derived.Test.YtpefpiibinbjgaaOwnDiskDoesSaid2
set_option linter.unusedVariables false
set_option linter.unusedSimpArgs false
namespace Go.Proofs.R3
open Go Go.AE
theorem diskworks : fnDlaw08_works () = some true := by kernel_rfl

theorem great_spec (l : List (Int × Int × List UInt8 × List Int)) (hl : l.length ≤ 9223372036854775807) : ∃ b, fnDlaw08_Great l = some b ∧ (b = false → l.length ≤ 150 ∧ ∀ x ∈ l, x.2.2.2.length ≤ 500) := by
  have key : ∃ y, loopD (stepDlaw08_Great_n0 l) FUEL ((0 : Int), ((0 : Nat) : Int)) = some y ∧ ((∃ t, y = .inr t ∧ l.length ≤ 150 ∧ ∀ x ∈ l, x.2.2.2.length ≤ 500) ∨ y = .inl ()) := by
    refine loopD_each l (fun j (s : Int) => (s, (j : Int))) (fun j _ => j ≤ 150 ∧ ∀ x ∈ l.take j, x.2.2.2.length ≤ 500) _ ?_ ?_ (by simp) (by omega)
    · rintro j x s hj hlt ⟨h1, h2⟩
      simp only [stepDlaw08_Great_n0, steplaw08_Great_n0, nodeDlaw08_Great_n1, nodelaw08_Great_n1, nodeDlaw08_Great_n2, nodelaw08_Great_n2, dec_true (show (j : Int) < (l.length : Int) by omega), cond_true, nth_of hj, bindO_pure]
      by_cases h150 : (j : Int) ≥ 150
      · right
        rw [dec_true h150]
        exact ⟨.inl (), rfl, .inr rfl⟩
      · rw [dec_false h150]
        by_cases hd : ((x.2.2.1.length : Nat) : Int) > 500
        · right
          rw [dec_true hd]
          exact ⟨.inl (), rfl, .inr rfl⟩
        · rw [dec_false hd]
          by_cases hc : ((x.2.2.2.length : Nat) : Int) > 500
          · right
            rw [dec_true hc]
            exact ⟨.inl (), rfl, .inr rfl⟩
          · left
            rw [dec_false hc]
            refine ⟨IntKind.wrap .i64 (s + ((x.2.2.2.length : Nat) : Int)), by simp only [cond_false, bindO_pure, Sum.elim_inr, wrap64_nat (show j < 9223372036854775807 by omega)], by omega, fun y hy => ?_⟩
            rw [List.take_add_one, hj, List.mem_append] at hy
            rcases hy with hy | hy
            · exact h2 y hy
            · simp at hy
              rw [hy]
              omega
    · rintro s ⟨h1, h2⟩
      simp only [stepDlaw08_Great_n0, steplaw08_Great_n0, dec_false (show ¬ (l.length : Int) < (l.length : Int) by omega), cond_false]
      rw [List.take_length] at h2
      exact ⟨_, rfl, .inl ⟨_, rfl, h1, h2⟩⟩
  obtain ⟨y, hy, h⟩ := key
  have hy' : loopD (stepDlaw08_Great_n0 l) FUEL (0, 0) = _ := hy
  simp only [fnDlaw08_Great, fnlaw08_Great, hy', bindO_pure]
  rcases h with ⟨t, rfl, h1⟩ | rfl
  · exact ⟨_, rfl, fun _ => h1⟩
  · exact ⟨_, rfl, fun h => by cases h⟩

/-- What holds between the disk and the reference's, at each step. -/
structure InvD (N k : Nat) (sure : List (List UInt8)) (seen waits : Secs) (fails : List Int) (Seen : List (List UInt8)) : Prop where
  len : sure.length = N
  small : N ≤ 40
  seenIs : Seen = settleM sure waits
  wl : waits.length ≤ k
  fl : fails.length ≤ 100
  inr : ∀ w ∈ waits, inR w.1 N = true
  lk : ∀ i, inR i N = true → look sure seen i = (Seen[i.toNat]?).getD []

theorem mhas_put (i n : Int) (x : List UInt8) : ∀ l : Secs, mhas i (mput n x l) = (decide (i = n) || mhas i l)
  | [] => by simp [ibeq, mput, mhas]
  | (m, y) :: r => by
    by_cases hnm : n = m
    · subst hnm
      by_cases hi : i = n <;> simp [ibeq, mput, mhas, hi]
    · by_cases hi : i = m
      · subst hi
        simp [ibeq, mput, mhas, hnm]
      · simp [ibeq, mput, mhas, hnm, hi, mhas_put i n x r]
theorem mget_put (i n : Int) (x : List UInt8) : ∀ l : Secs, mget i [] (mput n x l) = if i = n then x else mget i [] l
  | [] => by by_cases h : i = n <;> simp [ibeq, mput, mget, h]
  | (m, y) :: r => by
    by_cases hnm : n = m
    · subst hnm
      by_cases hi : i = n <;> simp [ibeq, mput, mget, hi]
    · by_cases hi : i = m
      · subst hi
        simp [ibeq, mput, mget, hnm, Ne.symm hnm]
      · simp [ibeq, mput, mget, hnm, hi, mget_put i n x r]
theorem InvD.put {N k : Nat} {sure : List (List UInt8)} {seen waits : Secs} {fails : List Int} {Seen : List (List UInt8)} (h : InvD N k sure seen waits fails Seen) {at_ : Int} {data : List UInt8} (hr : inR at_ N = true) :
    InvD N (k + 1) sure (mput at_ data seen) (waits ++ [(at_, data)]) fails (Seen.set at_.toNat data) := by
  refine ⟨h.len, h.small, by rw [h.seenIs, settleM_snoc], by have := h.wl; simp; omega, h.fl, ?_, ?_⟩
  · intro w hw
    rw [List.mem_append, List.mem_singleton] at hw
    rcases hw with hw | rfl
    · exact h.inr w hw
    · exact hr
  · intro i hi
    have hl : Seen.length = N := by rw [h.seenIs, settleM_length, h.len]
    have h1 : 0 ≤ i ∧ i < (N : Int) := by unfold inR at hi; simpa using hi
    have h2 : 0 ≤ at_ ∧ at_ < (N : Int) := by unfold inR at hr; simpa using hr
    have := h.lk i hi
    unfold look at this ⊢
    rw [mhas_put, mget_put]
    by_cases e : i = at_
    · subst e
      simp [List.getElem?_set_self (show i.toNat < Seen.length by omega)]
    · rw [List.getElem?_set_ne (show at_.toNat ≠ i.toNat by omega)]
      simpa [e] using this
theorem InvD.flush {N k : Nat} {sure : List (List UInt8)} {seen waits : Secs} {fails : List Int} {Seen : List (List UInt8)} (h : InvD N k sure seen waits fails Seen) : InvD N (k + 1) Seen [] [] fails Seen :=
  ⟨by rw [h.seenIs, settleM_length, h.len], h.small, rfl, by simp, h.fl, by simp, fun i _ => by simp [look, mhas]⟩
theorem InvD.more {N k : Nat} {sure : List (List UInt8)} {seen waits : Secs} {fails : List Int} {Seen : List (List UInt8)} (h : InvD N k sure seen waits fails Seen) : InvD N (k + 1) sure seen waits fails Seen :=
  ⟨h.len, h.small, h.seenIs, by have := h.wl; omega, h.fl, h.inr, h.lk⟩
theorem InvD.fail {N k : Nat} {sure : List (List UInt8)} {seen waits : Secs} {fails : List Int} {Seen : List (List UInt8)} (h : InvD N k sure seen waits fails Seen) (ops n : Int) : InvD N (k + 1) sure seen waits (failM ops fails n) Seen :=
  ⟨h.len, h.small, h.seenIs, by have := h.wl; omega, by
    have := h.fl
    unfold failM
    split
    · rename_i hh
      rw [List.length_append, List.length_singleton]
      omega
    · exact this, h.inr, h.lk⟩
theorem InvD.restart {N k : Nat} {sure : List (List UInt8)} {seen waits : Secs} {fails : List Int} {Seen : List (List UInt8)} (h : InvD N k sure seen waits fails Seen) (l : Secs) : InvD N (k + 1) (settleM sure l) [] [] [] (settleM sure l) :=
  ⟨by rw [settleM_length, h.len], h.small, rfl, by simp, by simp, by simp, fun i _ => by simp [look, mhas]⟩

theorem do_read (at_ ops a : Int) (off : Bool) (d : List UInt8) (ch : List Int) {N k : Nat} {sure : List (List UInt8)} {seen waits : Secs} {fails : List Int} {Seen : List (List UInt8)} (h : InvD N k sure seen waits fails Seen) (hk : k ≤ 150) :
    fnDlaw08_do (0, at_, d, ch, ops, a, off, ops, a, off, sure, seen, waits, fails, sure, Seen, waits, fails) = some (.inl (true, (callM ops a off fails).2.2.1, a, (callM ops a off fails).2.2.2, (callM ops a off fails).2.2.1, a, (callM ops a off fails).2.2.2, seen, waits, fails)) := by
  have hl : Seen.length = sure.length := by rw [h.seenIs, settleM_length]
  have hfl := h.fl
  have hv : readR (callM ops a off fails).1 at_ sure.length (look sure seen at_) = readR (callM ops a off fails).1 at_ Seen.length ((Seen[at_.toNat]?).getD []) := by
    unfold readR
    rw [hl]
    split
    · rfl
    · split
      · rfl
      · rename_i h2
        rw [h.lk at_ (by rw [← h.len]; simpa using h2)]
  simp only [fnDlaw08_do, fnlaw08_do, nodeDlaw08_do_n0, nodelaw08_do_n0, ibeq, dec_true (show (0 : Int) = 0 from rfl), cond_true, read_eq _ _ _ _ _ _ _ _ (show fails.length ≤ 1000000 by omega), refread_eq _ _ _ _ _ _ _ _ (show fails.length ≤ 1000000 by omega), bindO_pure, unP, nodeDlaw08_do_n1, nodelaw08_do_n1, hv]
  simp [bindO_pure, unP]

variable {N k : Nat} {sure : List (List UInt8)} {seen waits : Secs} {fails : List Int} {Seen : List (List UInt8)}
theorem do_write (at_ ops a : Int) (off : Bool) (d : List UInt8) (ch : List Int) (h : InvD N k sure seen waits fails Seen) (hk : k ≤ 150) :
    fnDlaw08_do (1, at_, d, ch, ops, a, off, ops, a, off, sure, seen, waits, fails, sure, Seen, waits, fails) =
      some (if (writeE (callM ops a off fails).1 (callM ops a off fails).2.1 at_ d sure.length).2 = true then
        .inr (.inl (true, (callM ops a off fails).2.2.1, (callM ops a off fails).2.2.2, (callM ops a off fails).2.2.1, (callM ops a off fails).2.2.2, mput at_ d seen, waits ++ [(at_, d)], Seen.set at_.toNat d, waits ++ [(at_, d)]))
      else .inl (true, (callM ops a off fails).2.2.1, a, (callM ops a off fails).2.2.2, (callM ops a off fails).2.2.1, a, (callM ops a off fails).2.2.2, seen, waits, fails)) := by
  have hl : Seen.length = sure.length := by rw [h.seenIs, settleM_length]
  have hfl := h.fl
  have hwl := h.wl
  have hs := h.small
  have hsl := h.len
  simp only [fnDlaw08_do, fnlaw08_do, nodeDlaw08_do_n0, nodelaw08_do_n0, ibeq, dec_false (show ¬ (1 : Int) = 0 by omega), dec_true (show (1 : Int) = 1 from rfl), cond_true, cond_false, write_eq _ _ _ _ _ _ _ _ _ (show fails.length ≤ 1000000 by omega) (show waits.length ≤ 1000000 by omega), refwrite_eq _ _ _ _ _ _ _ _ _ (show fails.length ≤ 1000000 by omega) (show waits.length ≤ 1000000 by omega) (show Seen.length ≤ 1000000 by omega), bindO_pure, unP, hl]
  cases hw : (writeE (callM ops a off fails).1 (callM ops a off fails).2.1 at_ d sure.length).2 <;> simp [bindO_pure, unP]
theorem do_flush (at_ ops a : Int) (off : Bool) (d : List UInt8) (ch : List Int) (h : InvD N k sure seen waits fails Seen) (hk : k ≤ 150) :
    fnDlaw08_do (2, at_, d, ch, ops, a, off, ops, a, off, sure, seen, waits, fails, sure, Seen, waits, fails) =
      some (if (callM ops a off fails).1 = 0 then
        .inr (.inr (.inl (true, (callM ops a off fails).2.2.1, (callM ops a off fails).2.2.2, (callM ops a off fails).2.2.1, (callM ops a off fails).2.2.2, Seen)))
      else .inl (true, (callM ops a off fails).2.2.1, a, (callM ops a off fails).2.2.2, (callM ops a off fails).2.2.1, a, (callM ops a off fails).2.2.2, seen, waits, fails)) := by
  have hl : Seen.length = sure.length := by rw [h.seenIs, settleM_length]
  have hfl := h.fl
  have hwl := h.wl
  have hs := h.small
  have hsl := h.len
  simp only [fnDlaw08_do, fnlaw08_do, nodeDlaw08_do_n0, nodelaw08_do_n0, ibeq, dec_false (show ¬ (2 : Int) = 0 by omega), dec_false (show ¬ (2 : Int) = 1 by omega), dec_true (show (2 : Int) = 2 from rfl), cond_true, cond_false,
    flush_eq _ _ _ _ _ _ _ (show fails.length ≤ 1000000 by omega) (show waits.length ≤ 1000000 by omega) (fun w hw => hsl ▸ h.inr w hw), refflush_eq _ _ _ _ _ _ _ (show fails.length ≤ 1000000 by omega) (show Seen.length ≤ 1000000 by omega), bindO_pure, ← h.seenIs]
  by_cases hw : (callM ops a off fails).1 = 0 <;> simp [hw, bindO_pure, unP]
theorem do_fail (at_ ops a : Int) (off : Bool) (d : List UInt8) (ch : List Int) (h : InvD N k sure seen waits fails Seen) :
    fnDlaw08_do (3, at_, d, ch, ops, a, off, ops, a, off, sure, seen, waits, fails, sure, Seen, waits, fails) =
      some (if at_ > ops ∧ at_ ∉ fails ∧ fails.length < 100 then .inr (.inr (.inr (.inr (.inr (.inl (failM ops fails at_, failM ops fails at_))))))
      else .inl (true, ops, a, off, ops, a, off, seen, waits, fails)) := by
  have hfl := h.fl
  simp only [fnDlaw08_do, fnlaw08_do, nodeDlaw08_do_n0, nodelaw08_do_n0, ibeq, dec_false (show ¬ (3 : Int) = 0 by omega), dec_false (show ¬ (3 : Int) = 1 by omega), dec_false (show ¬ (3 : Int) = 2 by omega), dec_true (show (3 : Int) = 3 from rfl), cond_true, cond_false,
    fail_eq _ _ _ _ _ _ _ _ (show fails.length ≤ 1000000 by omega), reffail_eq _ _ _ _ _ _ _ _ (show fails.length ≤ 1000000 by omega), bindO_pure]
  by_cases hw : at_ > ops ∧ at_ ∉ fails ∧ fails.length < 100
  · rw [if_pos hw, if_pos hw]; rfl
  · rw [if_neg hw, if_neg hw]
    have : failM ops fails at_ = fails := by unfold failM; rw [if_neg hw]
    rw [this]; rfl
theorem do_down (at_ ops a : Int) (off : Bool) (d : List UInt8) (ch : List Int) :
    fnDlaw08_do (4, at_, d, ch, ops, a, off, ops, a, off, sure, seen, waits, fails, sure, Seen, waits, fails) = some (.inl (true, ops, at_, off, ops, at_, off, seen, waits, fails)) := by
  simp only [fnDlaw08_do, fnlaw08_do, nodeDlaw08_do_n0, nodelaw08_do_n0, ibeq, dec_false (show ¬ (4 : Int) = 0 by omega), dec_false (show ¬ (4 : Int) = 1 by omega), dec_false (show ¬ (4 : Int) = 2 by omega), dec_false (show ¬ (4 : Int) = 3 by omega), dec_true (show (4 : Int) = 4 from rfl), cond_true, cond_false, fnDdisk_Disk_DownAt, fndisk_Disk_DownAt, bindO_pure]
  rfl
theorem do_restart (at_ ops a : Int) (off : Bool) (d : List UInt8) (ch : List Int) (h : InvD N k sure seen waits fails Seen) (hk : k ≤ 150) (hch : ch.length ≤ 500) :
    fnDlaw08_do (5, at_, d, ch, ops, a, off, ops, a, off, sure, seen, waits, fails, sure, Seen, waits, fails) = some (.inr (.inr (.inr (.inr (.inr (.inr (settleM sure (chosen ch 0 waits), settleM sure (chosen ch 0 waits), settleM sure (chosen ch 0 waits)))))))) := by
  have hwl := h.wl
  have hs := h.small
  have hsl := h.len
  simp only [fnDlaw08_do, fnlaw08_do, nodeDlaw08_do_n0, nodelaw08_do_n0, ibeq, dec_false (show ¬ (5 : Int) = 0 by omega), dec_false (show ¬ (5 : Int) = 1 by omega), dec_false (show ¬ (5 : Int) = 2 by omega), dec_false (show ¬ (5 : Int) = 3 by omega), dec_false (show ¬ (5 : Int) = 4 by omega), dec_true (show (5 : Int) = 5 from rfl), cond_true, cond_false,
    ble_true (show (0 + ch.length) * 8 ≤ 140737488355328 by omega), restart2_eq ch _ _ _ _ _ _ _ (show waits.length ≤ 1000000 by omega) (fun w hw => hsl ▸ h.inr w hw), refrestart_eq ch _ _ _ _ _ _ _ (show waits.length ≤ 1000000 by omega) (show sure.length ≤ 1000000 by omega) (fun w hw => hsl ▸ h.inr w hw), bindO_pure]
  rfl
theorem do_else (kind at_ ops a : Int) (off : Bool) (d : List UInt8) (ch : List Int) (h0 : kind ≠ 0) (h1 : kind ≠ 1) (h2 : kind ≠ 2) (h3 : kind ≠ 3) (h4 : kind ≠ 4) (h5 : kind ≠ 5) :
    fnDlaw08_do (kind, at_, d, ch, ops, a, off, ops, a, off, sure, seen, waits, fails, sure, Seen, waits, fails) = some (.inl (true, ops, a, off, ops, a, off, seen, waits, fails)) := by
  simp only [fnDlaw08_do, fnlaw08_do, nodeDlaw08_do_n0, nodelaw08_do_n0, ibeq, dec_false h0, dec_false h1, dec_false h2, dec_false h3, dec_false h4, dec_false h5, cond_false, bindO_pure]
  rfl
theorem do_step (l : List (Int × Int × List UInt8 × List Int)) (j : Nat) (x : Int × Int × List UInt8 × List Int) (hj : l[j]? = some x) (hch : x.2.2.2.length ≤ 500) (ops a : Int) (off : Bool) (h : InvD N k sure seen waits fails Seen) (hk : k ≤ 150) :
    ∃ (ops' a' : Int) (off' : Bool) (sure' : List (List UInt8)) (seen' waits' : Secs) (fails' : List Int) (Seen' : List (List UInt8)),
      nodeDlaw08_DiskDoes_n2 (l, (j : Int), ops, a, off, ops, a, off, sure, seen, waits, fails, sure, Seen, waits, fails) = some (false, ops', a', off', ops', a', off', sure', seen', waits', fails', sure', Seen', waits', fails') ∧ InvD N (k + 1) sure' seen' waits' fails' Seen' := by
  obtain ⟨kind, at_, d, ch⟩ := x
  have hl : Seen.length = sure.length := by rw [h.seenIs, settleM_length]
  have hb : ∀ b : Bool, (!b == b) = false := by decide
  by_cases h0 : kind = 0
  · subst h0
    refine ⟨(callM ops a off fails).2.2.1, a, (callM ops a off fails).2.2.2, sure, seen, waits, fails, Seen, ?_, h.more⟩
    simp only [nodeDlaw08_DiskDoes_n2, nodelaw08_DiskDoes_n2, nth_of hj, bindO_pure, do_read at_ ops a off d ch h hk]
    simp [unP, fnDdisk_Disk_Ops, fndisk_Disk_Ops, fnDdisk_Disk_Waits, fndisk_Disk_Waits, fnDdisk_Disk_Sectors, fndisk_Disk_Sectors, fnDdisk_Disk_Down, fndisk_Disk_Down, nodeDdisk_Disk_Down_n0, nodedisk_Disk_Down_n0, bindO_pure, hl]
  by_cases h1 : kind = 1
  · subst h1
    cases hw : (writeE (callM ops a off fails).1 (callM ops a off fails).2.1 at_ d sure.length).2 with
    | true =>
      have hr : inR at_ N = true := by
        unfold writeE at hw
        repeat' split at hw
        all_goals first | (cases hw; done) | skip
        rename_i h1 h2 h3
        rw [← h.len]
        simpa using h2
      refine ⟨(callM ops a off fails).2.2.1, a, (callM ops a off fails).2.2.2, sure, mput at_ d seen, waits ++ [(at_, d)], fails, Seen.set at_.toNat d, ?_, h.put hr⟩
      simp only [nodeDlaw08_DiskDoes_n2, nodelaw08_DiskDoes_n2, nth_of hj, bindO_pure, do_write at_ ops a off d ch h hk, hw, if_true]
      simp [unP, fnDdisk_Disk_Ops, fndisk_Disk_Ops, fnDdisk_Disk_Waits, fndisk_Disk_Waits, fnDdisk_Disk_Sectors, fndisk_Disk_Sectors, fnDdisk_Disk_Down, fndisk_Disk_Down, nodeDdisk_Disk_Down_n0, nodedisk_Disk_Down_n0, bindO_pure, hl]
    | false =>
      refine ⟨(callM ops a off fails).2.2.1, a, (callM ops a off fails).2.2.2, sure, seen, waits, fails, Seen, ?_, h.more⟩
      simp only [nodeDlaw08_DiskDoes_n2, nodelaw08_DiskDoes_n2, nth_of hj, bindO_pure, do_write at_ ops a off d ch h hk, hw, Bool.false_eq_true, if_false]
      simp [unP, fnDdisk_Disk_Ops, fndisk_Disk_Ops, fnDdisk_Disk_Waits, fndisk_Disk_Waits, fnDdisk_Disk_Sectors, fndisk_Disk_Sectors, fnDdisk_Disk_Down, fndisk_Disk_Down, nodeDdisk_Disk_Down_n0, nodedisk_Disk_Down_n0, bindO_pure, hl]
  by_cases h2 : kind = 2
  · subst h2
    by_cases hw : (callM ops a off fails).1 = 0
    · refine ⟨(callM ops a off fails).2.2.1, a, (callM ops a off fails).2.2.2, Seen, [], [], fails, Seen, ?_, h.flush⟩
      simp only [nodeDlaw08_DiskDoes_n2, nodelaw08_DiskDoes_n2, nth_of hj, bindO_pure, do_flush at_ ops a off d ch h hk, if_pos hw]
      simp [unP, fnDdisk_Disk_Ops, fndisk_Disk_Ops, fnDdisk_Disk_Waits, fndisk_Disk_Waits, fnDdisk_Disk_Sectors, fndisk_Disk_Sectors, fnDdisk_Disk_Down, fndisk_Disk_Down, nodeDdisk_Disk_Down_n0, nodedisk_Disk_Down_n0, bindO_pure, hl]
    · refine ⟨(callM ops a off fails).2.2.1, a, (callM ops a off fails).2.2.2, sure, seen, waits, fails, Seen, ?_, h.more⟩
      simp only [nodeDlaw08_DiskDoes_n2, nodelaw08_DiskDoes_n2, nth_of hj, bindO_pure, do_flush at_ ops a off d ch h hk, if_neg hw]
      simp [unP, fnDdisk_Disk_Ops, fndisk_Disk_Ops, fnDdisk_Disk_Waits, fndisk_Disk_Waits, fnDdisk_Disk_Sectors, fndisk_Disk_Sectors, fnDdisk_Disk_Down, fndisk_Disk_Down, nodeDdisk_Disk_Down_n0, nodedisk_Disk_Down_n0, bindO_pure, hl]
  by_cases h3 : kind = 3
  · subst h3
    by_cases hw : at_ > ops ∧ at_ ∉ fails ∧ fails.length < 100
    · refine ⟨ops, a, off, sure, seen, waits, failM ops fails at_, Seen, ?_, h.fail ops at_⟩
      simp only [nodeDlaw08_DiskDoes_n2, nodelaw08_DiskDoes_n2, nth_of hj, bindO_pure, do_fail at_ ops a off d ch h, if_pos hw]
      simp [unP, fnDdisk_Disk_Ops, fndisk_Disk_Ops, fnDdisk_Disk_Waits, fndisk_Disk_Waits, fnDdisk_Disk_Sectors, fndisk_Disk_Sectors, fnDdisk_Disk_Down, fndisk_Disk_Down, nodeDdisk_Disk_Down_n0, nodedisk_Disk_Down_n0, bindO_pure, hl]
    · refine ⟨ops, a, off, sure, seen, waits, fails, Seen, ?_, h.more⟩
      simp only [nodeDlaw08_DiskDoes_n2, nodelaw08_DiskDoes_n2, nth_of hj, bindO_pure, do_fail at_ ops a off d ch h, if_neg hw]
      simp [unP, fnDdisk_Disk_Ops, fndisk_Disk_Ops, fnDdisk_Disk_Waits, fndisk_Disk_Waits, fnDdisk_Disk_Sectors, fndisk_Disk_Sectors, fnDdisk_Disk_Down, fndisk_Disk_Down, nodeDdisk_Disk_Down_n0, nodedisk_Disk_Down_n0, bindO_pure, hl]
  by_cases h4 : kind = 4
  · subst h4
    refine ⟨ops, at_, off, sure, seen, waits, fails, Seen, ?_, h.more⟩
    simp only [nodeDlaw08_DiskDoes_n2, nodelaw08_DiskDoes_n2, nth_of hj, bindO_pure, do_down at_ ops a off d ch]
    simp [unP, fnDdisk_Disk_Ops, fndisk_Disk_Ops, fnDdisk_Disk_Waits, fndisk_Disk_Waits, fnDdisk_Disk_Sectors, fndisk_Disk_Sectors, fnDdisk_Disk_Down, fndisk_Disk_Down, nodeDdisk_Disk_Down_n0, nodedisk_Disk_Down_n0, bindO_pure, hl]
  by_cases h5 : kind = 5
  · subst h5
    refine ⟨ops, 0, false, settleM sure (chosen ch 0 waits), [], [], [], settleM sure (chosen ch 0 waits), ?_, h.restart _⟩
    simp only [nodeDlaw08_DiskDoes_n2, nodelaw08_DiskDoes_n2, nth_of hj, bindO_pure, do_restart at_ ops a off d ch h hk hch]
    simp [unP, fnDdisk_Disk_Ops, fndisk_Disk_Ops, fnDdisk_Disk_Waits, fndisk_Disk_Waits, fnDdisk_Disk_Sectors, fndisk_Disk_Sectors, fnDdisk_Disk_Down, fndisk_Disk_Down, nodeDdisk_Disk_Down_n0, nodedisk_Disk_Down_n0, bindO_pure, hl]
  · refine ⟨ops, a, off, sure, seen, waits, fails, Seen, ?_, h.more⟩
    simp only [nodeDlaw08_DiskDoes_n2, nodelaw08_DiskDoes_n2, nth_of hj, bindO_pure, do_else kind at_ ops a off d ch h0 h1 h2 h3 h4 h5]
    simp [unP, fnDdisk_Disk_Ops, fndisk_Disk_Ops, fnDdisk_Disk_Waits, fndisk_Disk_Waits, fnDdisk_Disk_Sectors, fndisk_Disk_Sectors, fnDdisk_Disk_Down, fndisk_Disk_Down, nodeDdisk_Disk_Down_n0, nodedisk_Disk_Down_n0, bindO_pure, hl]
/-- The disk's and the reference's states, as the law keeps them. -/
structure SD where
  (ops a : Int) (off : Bool) (sure : List (List UInt8)) (seen waits : Secs) (fails : List Int) (Seen : List (List UInt8))
theorem does_loop (l : List (Int × Int × List UInt8 × List Int)) (N : Nat) (hN : N ≤ 40) (h150 : l.length ≤ 150) (hch : ∀ x ∈ l, x.2.2.2.length ≤ 500) :
    ∃ v : SD, loopD (stepDlaw08_DiskDoes_n0 l) FUEL (0, 0, 0, false, 0, 0, false, List.replicate N blank, [], [], [], List.replicate N blank, List.replicate N blank, [], []) = some (.inr (v.ops, v.a, v.off, v.ops, v.a, v.off, v.sure, v.seen, v.waits, v.fails, v.sure, v.Seen, v.waits, v.fails)) ∧ InvD N 150 v.sure v.seen v.waits v.fails v.Seen := by
  have key : ∃ y, loopD (stepDlaw08_DiskDoes_n0 l) FUEL (((0 : Nat) : Int), 0, 0, false, 0, 0, false, List.replicate N blank, [], [], [], List.replicate N blank, List.replicate N blank, [], []) = some y ∧
      ∃ v : SD, y = .inr (v.ops, v.a, v.off, v.ops, v.a, v.off, v.sure, v.seen, v.waits, v.fails, v.sure, v.Seen, v.waits, v.fails) ∧ InvD N 150 v.sure v.seen v.waits v.fails v.Seen := by
    refine loopD_each l (fun j (v : SD) => ((j : Int), v.ops, v.a, v.off, v.ops, v.a, v.off, v.sure, v.seen, v.waits, v.fails, v.sure, v.Seen, v.waits, v.fails)) (fun j v => InvD N j v.sure v.seen v.waits v.fails v.Seen) _ ?_ ?_
      (s0 := ⟨0, 0, false, List.replicate N blank, [], [], [], List.replicate N blank⟩) ⟨by simp, hN, rfl, by simp, by simp, by simp, fun i _ => by simp [look, mhas]⟩ (by omega)
    · rintro j x v hj hlt hi
      left
      obtain ⟨ops', a', off', sure', seen', waits', fails', Seen', h1, h2⟩ := do_step l j x hj (hch x (List.mem_of_getElem? hj)) v.ops v.a v.off hi (by omega)
      refine ⟨⟨ops', a', off', sure', seen', waits', fails', Seen'⟩, ?_, h2⟩
      simp only [stepDlaw08_DiskDoes_n0, steplaw08_DiskDoes_n0, nodeDlaw08_DiskDoes_n1, nodelaw08_DiskDoes_n1, dec_true (show (j : Int) < (l.length : Int) by omega), cond_true, h1, bindO_pure, unP, cond_false, Sum.elim_inr, wrap64_nat (show j < 9223372036854775807 by omega)]
    · rintro v hi
      simp only [stepDlaw08_DiskDoes_n0, steplaw08_DiskDoes_n0, dec_false (show ¬ (l.length : Int) < (l.length : Int) by omega), cond_false]
      exact ⟨_, rfl, v, rfl, hi.len, hi.small, hi.seenIs, Nat.le_trans hi.wl h150, hi.fl, hi.inr, hi.lk⟩
  obtain ⟨y, hy, v, rfl, hv⟩ := key
  exact ⟨v, hy, hv⟩
theorem last_loop (N : Nat) (hN : N ≤ 40) (sure : List (List UInt8)) (hs : sure.length = N) (ops : Int) :
    loopD (stepDlaw08_DiskDoes_n3 ()) FUEL (0, ops, 0, false, ops, 0, false, sure, [], [], [], sure, sure, [], []) = some (.inr ()) := by
  have key : ∃ y, loopD (stepDlaw08_DiskDoes_n3 ()) FUEL (((0 : Nat) : Int), ops, 0, false, ops, 0, false, sure, [], [], [], sure, sure, [], []) = some y ∧ y = .inr () := by
    refine loopD_each sure (fun j (v : Int × Bool) => ((j : Int), v.1, 0, v.2, v.1, 0, v.2, sure, [], [], [], sure, sure, [], [])) (fun _ _ => True) _ ?_ ?_ (s0 := (ops, false)) trivial (by omega)
    · rintro j x ⟨o, f⟩ hj hlt _
      left
      have hi : InvD N 0 sure [] [] [] sure := ⟨hs, hN, rfl, by simp, by simp, by simp, fun i _ => by simp [look, mhas]⟩
      refine ⟨((callM o 0 f []).2.2.1, (callM o 0 f []).2.2.2), ?_, trivial⟩
      simp only [stepDlaw08_DiskDoes_n3, steplaw08_DiskDoes_n3, dec_true (show (j : Int) < (sure.length : Int) by omega), cond_true, do_read (j : Int) o 0 f [] [] hi (by omega), bindO_pure, unP, Sum.elim_inl, Bool.not_true, cond_false, wrap64_nat (show j < 9223372036854775807 by omega)]
    · rintro ⟨o, f⟩ _
      simp only [stepDlaw08_DiskDoes_n3, steplaw08_DiskDoes_n3, dec_false (show ¬ (sure.length : Int) < (sure.length : Int) by omega), cond_false]
      exact ⟨_, rfl, rfl⟩
  obtain ⟨y, hy, rfl⟩ := key
  exact hy
theorem DiskDoes_true (s : Int) (l : List (Int × Int × List UInt8 × List Int)) (hl : l.length ≤ 9223372036854775807) : fnDlaw08_DiskDoes (s, l) = some true := by
  obtain ⟨b, hb, hg⟩ := great_spec l hl
  simp only [fnDlaw08_DiskDoes, fnlaw08_DiskDoes, diskworks, hb, bindO_pure, Bool.not_true, cond_false]
  cases b with
  | true => rfl
  | false =>
    obtain ⟨h150, hch⟩ := hg rfl
    have hex : ∃ n : Nat, (n : Int) = (if 1000 < (if 0 > (if 40 < s then 40 else s) then 0 else (if 40 < s then 40 else s)) then 1000 else if 0 > (if 40 < s then 40 else s) then 0 else (if 40 < s then 40 else s)) ∧ n ≤ 40 := by
      refine ⟨(if 1000 < (if 0 > (if 40 < s then 40 else s) then 0 else (if 40 < s then 40 else s)) then 1000 else if 0 > (if 40 < s then 40 else s) then 0 else (if 40 < s then 40 else s) : Int).toNat, ?_, ?_⟩ <;> (repeat' split) <;> omega
    obtain ⟨n, hn, hn40⟩ := hex
    obtain ⟨v, hv, hi⟩ := does_loop l n hn40 h150 hch
    have hwl := hi.wl
    have hsl := hi.len
    simp only [cond_false, diskNew_eq _ n hn (by omega), refNew_eq _ n hn (by omega), bindO_pure, unP, hv, Sum.elim_inr, restart_eq _ _ _ _ _ _ _ (show v.waits.length ≤ 1000000 by omega), refrestart2_eq _ _ _ _ _ _ _ (show v.waits.length ≤ 1000000 by omega) (show v.sure.length ≤ 1000000 by omega), last_loop n hn40 v.sure hsl v.ops]
end Go.Proofs.R3

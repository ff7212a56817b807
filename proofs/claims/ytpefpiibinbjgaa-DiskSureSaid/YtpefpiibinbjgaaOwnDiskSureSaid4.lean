/- What the functions that DiskSureSaid reaches compute: part 4. -/
import Derived.Test.YtpefpiibinbjgaaOwnDiskSureSaid3
set_option linter.unusedVariables false
set_option linter.unusedSimpArgs false
namespace Go.Proofs.R3
open Go Go.AE
theorem diskworks : fnDlaw08_works () = some true := by kernel_rfl

theorem great_spec (l : List (Int × Int × List UInt8 × List Int)) (hl : l.length ≤ 9223372036854775807) : ∃ b, fnDlaw08_Great l = some b ∧ (b = false → l.length ≤ 150 ∧ ∀ x ∈ l, x.2.2.2.length ≤ 500) := by
  have key : ∃ y, loopD (stepDlaw08_Great_n0 l) FUEL ((0 : Int), ((0 : Nat) : Int)) = some y ∧ ((∃ t, y = .inr t ∧ l.length ≤ 150 ∧ ∀ x ∈ l, x.2.2.2.length ≤ 500) ∨ y = .inl ()) := by
    refine loopD_each l (fun j (s : Int) => (s, (j : Int))) (fun j _ => j ≤ 150 ∧ ∀ x ∈ l.take j, x.2.2.2.length ≤ 500) _ ?_ ?_ (by simp) (by omega)
    · rintro j x s hj hlt ⟨h1, h2⟩
      simp only [stepDlaw08_Great_n0, steplaw08_Great_n0, nodeDlaw08_Great_n1, nodelaw08_Great_n1, nodeDlaw08_Great_n2, nodelaw08_Great_n2, dec_true (show (j : Int) < (l.length : Int) by omega), cond_true, nth_of hj, bindO_pure]
      by_cases h150 : (j : Int) ≥ 150
      · right
        rw [dec_true h150]
        exact ⟨.inl (), rfl, .inr rfl⟩
      · rw [dec_false h150]
        by_cases hd : ((x.2.2.1.length : Nat) : Int) > 500
        · right
          rw [dec_true hd]
          exact ⟨.inl (), rfl, .inr rfl⟩
        · rw [dec_false hd]
          by_cases hc : ((x.2.2.2.length : Nat) : Int) > 500
          · right
            rw [dec_true hc]
            exact ⟨.inl (), rfl, .inr rfl⟩
          · left
            rw [dec_false hc]
            refine ⟨IntKind.wrap .i64 (s + ((x.2.2.2.length : Nat) : Int)), by simp only [cond_false, bindO_pure, Sum.elim_inr, wrap64_nat (show j < 9223372036854775807 by omega)], by omega, fun y hy => ?_⟩
            rw [List.take_add_one, hj, List.mem_append] at hy
            rcases hy with hy | hy
            · exact h2 y hy
            · simp at hy
              rw [hy]
              omega
    · rintro s ⟨h1, h2⟩
      simp only [stepDlaw08_Great_n0, steplaw08_Great_n0, dec_false (show ¬ (l.length : Int) < (l.length : Int) by omega), cond_false]
      rw [List.take_length] at h2
      exact ⟨_, rfl, .inl ⟨_, rfl, h1, h2⟩⟩
  obtain ⟨y, hy, h⟩ := key
  have hy' : loopD (stepDlaw08_Great_n0 l) FUEL (0, 0) = _ := hy
  simp only [fnDlaw08_Great, fnlaw08_Great, hy', bindO_pure]
  rcases h with ⟨t, rfl, h1⟩ | rfl
  · exact ⟨_, rfl, fun _ => h1⟩
  · exact ⟨_, rfl, fun h => by cases h⟩

/-- What holds between the disk and the reference's, at each step. -/
structure InvD (N k : Nat) (sure : List (List UInt8)) (seen waits : Secs) (fails : List Int) (Seen : List (List UInt8)) : Prop where
  len : sure.length = N
  small : N ≤ 40
  seenIs : Seen = settleM sure waits
  wl : waits.length ≤ k
  fl : fails.length ≤ 100
  inr : ∀ w ∈ waits, inR w.1 N = true
  lk : ∀ i, inR i N = true → look sure seen i = (Seen[i.toNat]?).getD []

theorem mhas_put (i n : Int) (x : List UInt8) : ∀ l : Secs, mhas i (mput n x l) = (decide (i = n) || mhas i l)
  | [] => by simp [ibeq, mput, mhas]
  | (m, y) :: r => by
    by_cases hnm : n = m
    · subst hnm
      by_cases hi : i = n <;> simp [ibeq, mput, mhas, hi]
    · by_cases hi : i = m
      · subst hi
        simp [ibeq, mput, mhas, hnm]
      · simp [ibeq, mput, mhas, hnm, hi, mhas_put i n x r]
theorem mget_put (i n : Int) (x : List UInt8) : ∀ l : Secs, mget i [] (mput n x l) = if i = n then x else mget i [] l
  | [] => by by_cases h : i = n <;> simp [ibeq, mput, mget, h]
  | (m, y) :: r => by
    by_cases hnm : n = m
    · subst hnm
      by_cases hi : i = n <;> simp [ibeq, mput, mget, hi]
    · by_cases hi : i = m
      · subst hi
        simp [ibeq, mput, mget, hnm, Ne.symm hnm]
      · simp [ibeq, mput, mget, hnm, hi, mget_put i n x r]
theorem InvD.put {N k : Nat} {sure : List (List UInt8)} {seen waits : Secs} {fails : List Int} {Seen : List (List UInt8)} (h : InvD N k sure seen waits fails Seen) {at_ : Int} {data : List UInt8} (hr : inR at_ N = true) :
    InvD N (k + 1) sure (mput at_ data seen) (waits ++ [(at_, data)]) fails (Seen.set at_.toNat data) := by
  refine ⟨h.len, h.small, by rw [h.seenIs, settleM_snoc], by have := h.wl; simp; omega, h.fl, ?_, ?_⟩
  · intro w hw
    rw [List.mem_append, List.mem_singleton] at hw
    rcases hw with hw | rfl
    · exact h.inr w hw
    · exact hr
  · intro i hi
    have hl : Seen.length = N := by rw [h.seenIs, settleM_length, h.len]
    have h1 : 0 ≤ i ∧ i < (N : Int) := by unfold inR at hi; simpa using hi
    have h2 : 0 ≤ at_ ∧ at_ < (N : Int) := by unfold inR at hr; simpa using hr
    have := h.lk i hi
    unfold look at this ⊢
    rw [mhas_put, mget_put]
    by_cases e : i = at_
    · subst e
      simp [List.getElem?_set_self (show i.toNat < Seen.length by omega)]
    · rw [List.getElem?_set_ne (show at_.toNat ≠ i.toNat by omega)]
      simpa [e] using this
theorem InvD.flush {N k : Nat} {sure : List (List UInt8)} {seen waits : Secs} {fails : List Int} {Seen : List (List UInt8)} (h : InvD N k sure seen waits fails Seen) : InvD N (k + 1) Seen [] [] fails Seen :=
  ⟨by rw [h.seenIs, settleM_length, h.len], h.small, rfl, by simp, h.fl, by simp, fun i _ => by simp [look, mhas]⟩
theorem InvD.more {N k : Nat} {sure : List (List UInt8)} {seen waits : Secs} {fails : List Int} {Seen : List (List UInt8)} (h : InvD N k sure seen waits fails Seen) : InvD N (k + 1) sure seen waits fails Seen :=
  ⟨h.len, h.small, h.seenIs, by have := h.wl; omega, h.fl, h.inr, h.lk⟩
theorem InvD.fail {N k : Nat} {sure : List (List UInt8)} {seen waits : Secs} {fails : List Int} {Seen : List (List UInt8)} (h : InvD N k sure seen waits fails Seen) (ops n : Int) : InvD N (k + 1) sure seen waits (failM ops fails n) Seen :=
  ⟨h.len, h.small, h.seenIs, by have := h.wl; omega, by
    have := h.fl
    unfold failM
    split
    · rename_i hh
      rw [List.length_append, List.length_singleton]
      omega
    · exact this, h.inr, h.lk⟩
theorem InvD.restart {N k : Nat} {sure : List (List UInt8)} {seen waits : Secs} {fails : List Int} {Seen : List (List UInt8)} (h : InvD N k sure seen waits fails Seen) (l : Secs) : InvD N (k + 1) (settleM sure l) [] [] [] (settleM sure l) :=
  ⟨by rw [settleM_length, h.len], h.small, rfl, by simp, by simp, by simp, fun i _ => by simp [look, mhas]⟩

theorem do_read (at_ ops a : Int) (off : Bool) (d : List UInt8) (ch : List Int) {N k : Nat} {sure : List (List UInt8)} {seen waits : Secs} {fails : List Int} {Seen : List (List UInt8)} (h : InvD N k sure seen waits fails Seen) (hk : k ≤ 150) :
    fnDlaw08_do (0, at_, d, ch, ops, a, off, ops, a, off, sure, seen, waits, fails, sure, Seen, waits, fails) = some (.inl (true, (callM ops a off fails).2.2.1, a, (callM ops a off fails).2.2.2, (callM ops a off fails).2.2.1, a, (callM ops a off fails).2.2.2, seen, waits, fails)) := by
  have hl : Seen.length = sure.length := by rw [h.seenIs, settleM_length]
  have hfl := h.fl
  have hv : readR (callM ops a off fails).1 at_ sure.length (look sure seen at_) = readR (callM ops a off fails).1 at_ Seen.length ((Seen[at_.toNat]?).getD []) := by
    unfold readR
    rw [hl]
    split
    · rfl
    · split
      · rfl
      · rename_i h2
        rw [h.lk at_ (by rw [← h.len]; simpa using h2)]
  simp only [fnDlaw08_do, fnlaw08_do, nodeDlaw08_do_n0, nodelaw08_do_n0, ibeq, dec_true (show (0 : Int) = 0 from rfl), cond_true, read_eq _ _ _ _ _ _ _ _ (show fails.length ≤ 1000000 by omega), refread_eq _ _ _ _ _ _ _ _ (show fails.length ≤ 1000000 by omega), bindO_pure, unP, nodeDlaw08_do_n1, nodelaw08_do_n1, hv]
  simp [bindO_pure, unP]

variable {N k : Nat} {sure : List (List UInt8)} {seen waits : Secs} {fails : List Int} {Seen : List (List UInt8)}
theorem do_write (at_ ops a : Int) (off : Bool) (d : List UInt8) (ch : List Int) (h : InvD N k sure seen waits fails Seen) (hk : k ≤ 150) :
    fnDlaw08_do (1, at_, d, ch, ops, a, off, ops, a, off, sure, seen, waits, fails, sure, Seen, waits, fails) =
      some (if (writeE (callM ops a off fails).1 (callM ops a off fails).2.1 at_ d sure.length).2 = true then
        .inr (.inl (true, (callM ops a off fails).2.2.1, (callM ops a off fails).2.2.2, (callM ops a off fails).2.2.1, (callM ops a off fails).2.2.2, mput at_ d seen, waits ++ [(at_, d)], Seen.set at_.toNat d, waits ++ [(at_, d)]))
      else .inl (true, (callM ops a off fails).2.2.1, a, (callM ops a off fails).2.2.2, (callM ops a off fails).2.2.1, a, (callM ops a off fails).2.2.2, seen, waits, fails)) := by
  have hl : Seen.length = sure.length := by rw [h.seenIs, settleM_length]
  have hfl := h.fl
  have hwl := h.wl
  have hs := h.small
  have hsl := h.len
  simp only [fnDlaw08_do, fnlaw08_do, nodeDlaw08_do_n0, nodelaw08_do_n0, ibeq, dec_false (show ¬ (1 : Int) = 0 by omega), dec_true (show (1 : Int) = 1 from rfl), cond_true, cond_false, write_eq _ _ _ _ _ _ _ _ _ (show fails.length ≤ 1000000 by omega) (show waits.length ≤ 1000000 by omega), refwrite_eq _ _ _ _ _ _ _ _ _ (show fails.length ≤ 1000000 by omega) (show waits.length ≤ 1000000 by omega) (show Seen.length ≤ 1000000 by omega), bindO_pure, unP, hl]
  cases hw : (writeE (callM ops a off fails).1 (callM ops a off fails).2.1 at_ d sure.length).2 <;> simp [bindO_pure, unP]
theorem do_flush (at_ ops a : Int) (off : Bool) (d : List UInt8) (ch : List Int) (h : InvD N k sure seen waits fails Seen) (hk : k ≤ 150) :
    fnDlaw08_do (2, at_, d, ch, ops, a, off, ops, a, off, sure, seen, waits, fails, sure, Seen, waits, fails) =
      some (if (callM ops a off fails).1 = 0 then
        .inr (.inr (.inl (true, (callM ops a off fails).2.2.1, (callM ops a off fails).2.2.2, (callM ops a off fails).2.2.1, (callM ops a off fails).2.2.2, Seen)))
      else .inl (true, (callM ops a off fails).2.2.1, a, (callM ops a off fails).2.2.2, (callM ops a off fails).2.2.1, a, (callM ops a off fails).2.2.2, seen, waits, fails)) := by
  have hl : Seen.length = sure.length := by rw [h.seenIs, settleM_length]
  have hfl := h.fl
  have hwl := h.wl
  have hs := h.small
  have hsl := h.len
  simp only [fnDlaw08_do, fnlaw08_do, nodeDlaw08_do_n0, nodelaw08_do_n0, ibeq, dec_false (show ¬ (2 : Int) = 0 by omega), dec_false (show ¬ (2 : Int) = 1 by omega), dec_true (show (2 : Int) = 2 from rfl), cond_true, cond_false,
    flush_eq _ _ _ _ _ _ _ (show fails.length ≤ 1000000 by omega) (show waits.length ≤ 1000000 by omega) (fun w hw => hsl ▸ h.inr w hw), refflush_eq _ _ _ _ _ _ _ (show fails.length ≤ 1000000 by omega) (show Seen.length ≤ 1000000 by omega), bindO_pure, ← h.seenIs]
  by_cases hw : (callM ops a off fails).1 = 0 <;> simp [hw, bindO_pure, unP]
theorem do_fail (at_ ops a : Int) (off : Bool) (d : List UInt8) (ch : List Int) (h : InvD N k sure seen waits fails Seen) :
    fnDlaw08_do (3, at_, d, ch, ops, a, off, ops, a, off, sure, seen, waits, fails, sure, Seen, waits, fails) =
      some (if at_ > ops ∧ at_ ∉ fails ∧ fails.length < 100 then .inr (.inr (.inr (.inr (.inr (.inl (failM ops fails at_, failM ops fails at_))))))
      else .inl (true, ops, a, off, ops, a, off, seen, waits, fails)) := by
  have hfl := h.fl
  simp only [fnDlaw08_do, fnlaw08_do, nodeDlaw08_do_n0, nodelaw08_do_n0, ibeq, dec_false (show ¬ (3 : Int) = 0 by omega), dec_false (show ¬ (3 : Int) = 1 by omega), dec_false (show ¬ (3 : Int) = 2 by omega), dec_true (show (3 : Int) = 3 from rfl), cond_true, cond_false,
    fail_eq _ _ _ _ _ _ _ _ (show fails.length ≤ 1000000 by omega), reffail_eq _ _ _ _ _ _ _ _ (show fails.length ≤ 1000000 by omega), bindO_pure]
  by_cases hw : at_ > ops ∧ at_ ∉ fails ∧ fails.length < 100
  · rw [if_pos hw, if_pos hw]; rfl
  · rw [if_neg hw, if_neg hw]
    have : failM ops fails at_ = fails := by unfold failM; rw [if_neg hw]
    rw [this]; rfl
theorem do_down (at_ ops a : Int) (off : Bool) (d : List UInt8) (ch : List Int) :
    fnDlaw08_do (4, at_, d, ch, ops, a, off, ops, a, off, sure, seen, waits, fails, sure, Seen, waits, fails) = some (.inl (true, ops, at_, off, ops, at_, off, seen, waits, fails)) := by
  simp only [fnDlaw08_do, fnlaw08_do, nodeDlaw08_do_n0, nodelaw08_do_n0, ibeq, dec_false (show ¬ (4 : Int) = 0 by omega), dec_false (show ¬ (4 : Int) = 1 by omega), dec_false (show ¬ (4 : Int) = 2 by omega), dec_false (show ¬ (4 : Int) = 3 by omega), dec_true (show (4 : Int) = 4 from rfl), cond_true, cond_false, fnDdisk_Disk_DownAt, fndisk_Disk_DownAt, bindO_pure]
  rfl
theorem do_restart (at_ ops a : Int) (off : Bool) (d : List UInt8) (ch : List Int) (h : InvD N k sure seen waits fails Seen) (hk : k ≤ 150) (hch : ch.length ≤ 500) :
    fnDlaw08_do (5, at_, d, ch, ops, a, off, ops, a, off, sure, seen, waits, fails, sure, Seen, waits, fails) = some (.inr (.inr (.inr (.inr (.inr (.inr (settleM sure (chosen ch 0 waits), settleM sure (chosen ch 0 waits), settleM sure (chosen ch 0 waits)))))))) := by
  have hwl := h.wl
  have hs := h.small
  have hsl := h.len
  simp only [fnDlaw08_do, fnlaw08_do, nodeDlaw08_do_n0, nodelaw08_do_n0, ibeq, dec_false (show ¬ (5 : Int) = 0 by omega), dec_false (show ¬ (5 : Int) = 1 by omega), dec_false (show ¬ (5 : Int) = 2 by omega), dec_false (show ¬ (5 : Int) = 3 by omega), dec_false (show ¬ (5 : Int) = 4 by omega), dec_true (show (5 : Int) = 5 from rfl), cond_true, cond_false,
    ble_true (show (0 + ch.length) * 8 ≤ 140737488355328 by omega), restart2_eq ch _ _ _ _ _ _ _ (show waits.length ≤ 1000000 by omega) (fun w hw => hsl ▸ h.inr w hw), refrestart_eq ch _ _ _ _ _ _ _ (show waits.length ≤ 1000000 by omega) (show sure.length ≤ 1000000 by omega) (fun w hw => hsl ▸ h.inr w hw), bindO_pure]
  rfl
theorem do_else (kind at_ ops a : Int) (off : Bool) (d : List UInt8) (ch : List Int) (h0 : kind ≠ 0) (h1 : kind ≠ 1) (h2 : kind ≠ 2) (h3 : kind ≠ 3) (h4 : kind ≠ 4) (h5 : kind ≠ 5) :
    fnDlaw08_do (kind, at_, d, ch, ops, a, off, ops, a, off, sure, seen, waits, fails, sure, Seen, waits, fails) = some (.inl (true, ops, a, off, ops, a, off, seen, waits, fails)) := by
  simp only [fnDlaw08_do, fnlaw08_do, nodeDlaw08_do_n0, nodelaw08_do_n0, ibeq, dec_false h0, dec_false h1, dec_false h2, dec_false h3, dec_false h4, dec_false h5, cond_false, bindO_pure]
  rfl
theorem do_step (l : List (Int × Int × List UInt8 × List Int)) (j : Nat) (x : Int × Int × List UInt8 × List Int) (hj : l[j]? = some x) (hch : x.2.2.2.length ≤ 500) (ops a : Int) (off : Bool) (h : InvD N k sure seen waits fails Seen) (hk : k ≤ 150) :
    ∃ (ops' a' : Int) (off' : Bool) (sure' : List (List UInt8)) (seen' waits' : Secs) (fails' : List Int) (Seen' : List (List UInt8)),
      nodeDlaw08_DiskDoes_n2 (l, (j : Int), ops, a, off, ops, a, off, sure, seen, waits, fails, sure, Seen, waits, fails) = some (false, ops', a', off', ops', a', off', sure', seen', waits', fails', sure', Seen', waits', fails') ∧ InvD N (k + 1) sure' seen' waits' fails' Seen' := by
  obtain ⟨kind, at_, d, ch⟩ := x
  have hl : Seen.length = sure.length := by rw [h.seenIs, settleM_length]
  have hb : ∀ b : Bool, (!b == b) = false := by decide
  by_cases h0 : kind = 0
  · subst h0
    refine ⟨(callM ops a off fails).2.2.1, a, (callM ops a off fails).2.2.2, sure, seen, waits, fails, Seen, ?_, h.more⟩
    simp only [nodeDlaw08_DiskDoes_n2, nodelaw08_DiskDoes_n2, nth_of hj, bindO_pure, do_read at_ ops a off d ch h hk]
    simp [unP, fnDdisk_Disk_Ops, fndisk_Disk_Ops, fnDdisk_Disk_Waits, fndisk_Disk_Waits, fnDdisk_Disk_Sectors, fndisk_Disk_Sectors, fnDdisk_Disk_Down, fndisk_Disk_Down, nodeDdisk_Disk_Down_n0, nodedisk_Disk_Down_n0, bindO_pure, hl]
  by_cases h1 : kind = 1
  · subst h1
    cases hw : (writeE (callM ops a off fails).1 (callM ops a off fails).2.1 at_ d sure.length).2 with
    | true =>
      have hr : inR at_ N = true := by
        unfold writeE at hw
        repeat' split at hw
        all_goals first | (cases hw; done) | skip
        rename_i h1 h2 h3
        rw [← h.len]
        simpa using h2
      refine ⟨(callM ops a off fails).2.2.1, a, (callM ops a off fails).2.2.2, sure, mput at_ d seen, waits ++ [(at_, d)], fails, Seen.set at_.toNat d, ?_, h.put hr⟩
      simp only [nodeDlaw08_DiskDoes_n2, nodelaw08_DiskDoes_n2, nth_of hj, bindO_pure, do_write at_ ops a off d ch h hk, hw, if_true]
      simp [unP, fnDdisk_Disk_Ops, fndisk_Disk_Ops, fnDdisk_Disk_Waits, fndisk_Disk_Waits, fnDdisk_Disk_Sectors, fndisk_Disk_Sectors, fnDdisk_Disk_Down, fndisk_Disk_Down, nodeDdisk_Disk_Down_n0, nodedisk_Disk_Down_n0, bindO_pure, hl]
    | false =>
      refine ⟨(callM ops a off fails).2.2.1, a, (callM ops a off fails).2.2.2, sure, seen, waits, fails, Seen, ?_, h.more⟩
      simp only [nodeDlaw08_DiskDoes_n2, nodelaw08_DiskDoes_n2, nth_of hj, bindO_pure, do_write at_ ops a off d ch h hk, hw, Bool.false_eq_true, if_false]
      simp [unP, fnDdisk_Disk_Ops, fndisk_Disk_Ops, fnDdisk_Disk_Waits, fndisk_Disk_Waits, fnDdisk_Disk_Sectors, fndisk_Disk_Sectors, fnDdisk_Disk_Down, fndisk_Disk_Down, nodeDdisk_Disk_Down_n0, nodedisk_Disk_Down_n0, bindO_pure, hl]
  by_cases h2 : kind = 2
  · subst h2
    by_cases hw : (callM ops a off fails).1 = 0
    · refine ⟨(callM ops a off fails).2.2.1, a, (callM ops a off fails).2.2.2, Seen, [], [], fails, Seen, ?_, h.flush⟩
      simp only [nodeDlaw08_DiskDoes_n2, nodelaw08_DiskDoes_n2, nth_of hj, bindO_pure, do_flush at_ ops a off d ch h hk, if_pos hw]
      simp [unP, fnDdisk_Disk_Ops, fndisk_Disk_Ops, fnDdisk_Disk_Waits, fndisk_Disk_Waits, fnDdisk_Disk_Sectors, fndisk_Disk_Sectors, fnDdisk_Disk_Down, fndisk_Disk_Down, nodeDdisk_Disk_Down_n0, nodedisk_Disk_Down_n0, bindO_pure, hl]
    · refine ⟨(callM ops a off fails).2.2.1, a, (callM ops a off fails).2.2.2, sure, seen, waits, fails, Seen, ?_, h.more⟩
      simp only [nodeDlaw08_DiskDoes_n2, nodelaw08_DiskDoes_n2, nth_of hj, bindO_pure, do_flush at_ ops a off d ch h hk, if_neg hw]
      simp [unP, fnDdisk_Disk_Ops, fndisk_Disk_Ops, fnDdisk_Disk_Waits, fndisk_Disk_Waits, fnDdisk_Disk_Sectors, fndisk_Disk_Sectors, fnDdisk_Disk_Down, fndisk_Disk_Down, nodeDdisk_Disk_Down_n0, nodedisk_Disk_Down_n0, bindO_pure, hl]
  by_cases h3 : kind = 3
  · subst h3
    by_cases hw : at_ > ops ∧ at_ ∉ fails ∧ fails.length < 100
    · refine ⟨ops, a, off, sure, seen, waits, failM ops fails at_, Seen, ?_, h.fail ops at_⟩
      simp only [nodeDlaw08_DiskDoes_n2, nodelaw08_DiskDoes_n2, nth_of hj, bindO_pure, do_fail at_ ops a off d ch h, if_pos hw]
      simp [unP, fnDdisk_Disk_Ops, fndisk_Disk_Ops, fnDdisk_Disk_Waits, fndisk_Disk_Waits, fnDdisk_Disk_Sectors, fndisk_Disk_Sectors, fnDdisk_Disk_Down, fndisk_Disk_Down, nodeDdisk_Disk_Down_n0, nodedisk_Disk_Down_n0, bindO_pure, hl]
    · refine ⟨ops, a, off, sure, seen, waits, fails, Seen, ?_, h.more⟩
      simp only [nodeDlaw08_DiskDoes_n2, nodelaw08_DiskDoes_n2, nth_of hj, bindO_pure, do_fail at_ ops a off d ch h, if_neg hw]
      simp [unP, fnDdisk_Disk_Ops, fndisk_Disk_Ops, fnDdisk_Disk_Waits, fndisk_Disk_Waits, fnDdisk_Disk_Sectors, fndisk_Disk_Sectors, fnDdisk_Disk_Down, fndisk_Disk_Down, nodeDdisk_Disk_Down_n0, nodedisk_Disk_Down_n0, bindO_pure, hl]
  by_cases h4 : kind = 4
  · subst h4
    refine ⟨ops, at_, off, sure, seen, waits, fails, Seen, ?_, h.more⟩
    simp only [nodeDlaw08_DiskDoes_n2, nodelaw08_DiskDoes_n2, nth_of hj, bindO_pure, do_down at_ ops a off d ch]
    simp [unP, fnDdisk_Disk_Ops, fndisk_Disk_Ops, fnDdisk_Disk_Waits, fndisk_Disk_Waits, fnDdisk_Disk_Sectors, fndisk_Disk_Sectors, fnDdisk_Disk_Down, fndisk_Disk_Down, nodeDdisk_Disk_Down_n0, nodedisk_Disk_Down_n0, bindO_pure, hl]
  by_cases h5 : kind = 5
  · subst h5
    refine ⟨ops, 0, false, settleM sure (chosen ch 0 waits), [], [], [], settleM sure (chosen ch 0 waits), ?_, h.restart _⟩
    simp only [nodeDlaw08_DiskDoes_n2, nodelaw08_DiskDoes_n2, nth_of hj, bindO_pure, do_restart at_ ops a off d ch h hk hch]
    simp [unP, fnDdisk_Disk_Ops, fndisk_Disk_Ops, fnDdisk_Disk_Waits, fndisk_Disk_Waits, fnDdisk_Disk_Sectors, fndisk_Disk_Sectors, fnDdisk_Disk_Down, fndisk_Disk_Down, nodeDdisk_Disk_Down_n0, nodedisk_Disk_Down_n0, bindO_pure, hl]
  · refine ⟨ops, a, off, sure, seen, waits, fails, Seen, ?_, h.more⟩
    simp only [nodeDlaw08_DiskDoes_n2, nodelaw08_DiskDoes_n2, nth_of hj, bindO_pure, do_else kind at_ ops a off d ch h0 h1 h2 h3 h4 h5]
    simp [unP, fnDdisk_Disk_Ops, fndisk_Disk_Ops, fnDdisk_Disk_Waits, fndisk_Disk_Waits, fnDdisk_Disk_Sectors, fndisk_Disk_Sectors, fnDdisk_Disk_Down, fndisk_Disk_Down, nodeDdisk_Disk_Down_n0, nodedisk_Disk_Down_n0, bindO_pure, hl]
/-- The disk's and the reference's states, as the law keeps them. -/
structure SD where
  (ops a : Int) (off : Bool) (sure : List (List UInt8)) (seen waits : Secs) (fails : List Int) (Seen : List (List UInt8))
theorem does_loop (l : List (Int × Int × List UInt8 × List Int)) (N : Nat) (hN : N ≤ 40) (h150 : l.length ≤ 150) (hch : ∀ x ∈ l, x.2.2.2.length ≤ 500) :
    ∃ v : SD, loopD (stepDlaw08_DiskDoes_n0 l) FUEL (0, 0, 0, false, 0, 0, false, List.replicate N blank, [], [], [], List.replicate N blank, List.replicate N blank, [], []) = some (.inr (v.ops, v.a, v.off, v.ops, v.a, v.off, v.sure, v.seen, v.waits, v.fails, v.sure, v.Seen, v.waits, v.fails)) ∧ InvD N 150 v.sure v.seen v.waits v.fails v.Seen := by
  have key : ∃ y, loopD (stepDlaw08_DiskDoes_n0 l) FUEL (((0 : Nat) : Int), 0, 0, false, 0, 0, false, List.replicate N blank, [], [], [], List.replicate N blank, List.replicate N blank, [], []) = some y ∧
      ∃ v : SD, y = .inr (v.ops, v.a, v.off, v.ops, v.a, v.off, v.sure, v.seen, v.waits, v.fails, v.sure, v.Seen, v.waits, v.fails) ∧ InvD N 150 v.sure v.seen v.waits v.fails v.Seen := by
    refine loopD_each l (fun j (v : SD) => ((j : Int), v.ops, v.a, v.off, v.ops, v.a, v.off, v.sure, v.seen, v.waits, v.fails, v.sure, v.Seen, v.waits, v.fails)) (fun j v => InvD N j v.sure v.seen v.waits v.fails v.Seen) _ ?_ ?_
      (s0 := ⟨0, 0, false, List.replicate N blank, [], [], [], List.replicate N blank⟩) ⟨by simp, hN, rfl, by simp, by simp, by simp, fun i _ => by simp [look, mhas]⟩ (by omega)
    · rintro j x v hj hlt hi
      left
      obtain ⟨ops', a', off', sure', seen', waits', fails', Seen', h1, h2⟩ := do_step l j x hj (hch x (List.mem_of_getElem? hj)) v.ops v.a v.off hi (by omega)
      refine ⟨⟨ops', a', off', sure', seen', waits', fails', Seen'⟩, ?_, h2⟩
      simp only [stepDlaw08_DiskDoes_n0, steplaw08_DiskDoes_n0, nodeDlaw08_DiskDoes_n1, nodelaw08_DiskDoes_n1, dec_true (show (j : Int) < (l.length : Int) by omega), cond_true, h1, bindO_pure, unP, cond_false, Sum.elim_inr, wrap64_nat (show j < 9223372036854775807 by omega)]
    · rintro v hi
      simp only [stepDlaw08_DiskDoes_n0, steplaw08_DiskDoes_n0, dec_false (show ¬ (l.length : Int) < (l.length : Int) by omega), cond_false]
      exact ⟨_, rfl, v, rfl, hi.len, hi.small, hi.seenIs, Nat.le_trans hi.wl h150, hi.fl, hi.inr, hi.lk⟩
  obtain ⟨y, hy, v, rfl, hv⟩ := key
  exact ⟨v, hy, hv⟩
theorem last_loop (N : Nat) (hN : N ≤ 40) (sure : List (List UInt8)) (hs : sure.length = N) (ops : Int) :
    loopD (stepDlaw08_DiskDoes_n3 ()) FUEL (0, ops, 0, false, ops, 0, false, sure, [], [], [], sure, sure, [], []) = some (.inr ()) := by
  have key : ∃ y, loopD (stepDlaw08_DiskDoes_n3 ()) FUEL (((0 : Nat) : Int), ops, 0, false, ops, 0, false, sure, [], [], [], sure, sure, [], []) = some y ∧ y = .inr () := by
    refine loopD_each sure (fun j (v : Int × Bool) => ((j : Int), v.1, 0, v.2, v.1, 0, v.2, sure, [], [], [], sure, sure, [], [])) (fun _ _ => True) _ ?_ ?_ (s0 := (ops, false)) trivial (by omega)
    · rintro j x ⟨o, f⟩ hj hlt _
      left
      have hi : InvD N 0 sure [] [] [] sure := ⟨hs, hN, rfl, by simp, by simp, by simp, fun i _ => by simp [look, mhas]⟩
      refine ⟨((callM o 0 f []).2.2.1, (callM o 0 f []).2.2.2), ?_, trivial⟩
      simp only [stepDlaw08_DiskDoes_n3, steplaw08_DiskDoes_n3, dec_true (show (j : Int) < (sure.length : Int) by omega), cond_true, do_read (j : Int) o 0 f [] [] hi (by omega), bindO_pure, unP, Sum.elim_inl, Bool.not_true, cond_false, wrap64_nat (show j < 9223372036854775807 by omega)]
    · rintro ⟨o, f⟩ _
      simp only [stepDlaw08_DiskDoes_n3, steplaw08_DiskDoes_n3, dec_false (show ¬ (sure.length : Int) < (sure.length : Int) by omega), cond_false]
      exact ⟨_, rfl, rfl⟩
  obtain ⟨y, hy, rfl⟩ := key
  exact hy
theorem DiskDoes_true (s : Int) (l : List (Int × Int × List UInt8 × List Int)) (hl : l.length ≤ 9223372036854775807) : fnDlaw08_DiskDoes (s, l) = some true := by
  obtain ⟨b, hb, hg⟩ := great_spec l hl
  simp only [fnDlaw08_DiskDoes, fnlaw08_DiskDoes, diskworks, hb, bindO_pure, Bool.not_true, cond_false]
  cases b with
  | true => rfl
  | false =>
    obtain ⟨h150, hch⟩ := hg rfl
    have hex : ∃ n : Nat, (n : Int) = (if 1000 < (if 0 > (if 40 < s then 40 else s) then 0 else (if 40 < s then 40 else s)) then 1000 else if 0 > (if 40 < s then 40 else s) then 0 else (if 40 < s then 40 else s)) ∧ n ≤ 40 := by
      refine ⟨(if 1000 < (if 0 > (if 40 < s then 40 else s) then 0 else (if 40 < s then 40 else s)) then 1000 else if 0 > (if 40 < s then 40 else s) then 0 else (if 40 < s then 40 else s) : Int).toNat, ?_, ?_⟩ <;> (repeat' split) <;> omega
    obtain ⟨n, hn, hn40⟩ := hex
    obtain ⟨v, hv, hi⟩ := does_loop l n hn40 h150 hch
    have hwl := hi.wl
    have hsl := hi.len
    simp only [cond_false, diskNew_eq _ n hn (by omega), refNew_eq _ n hn (by omega), bindO_pure, unP, hv, Sum.elim_inr, restart_eq _ _ _ _ _ _ _ (show v.waits.length ≤ 1000000 by omega), refrestart2_eq _ _ _ _ _ _ _ (show v.waits.length ≤ 1000000 by omega) (show v.sure.length ≤ 1000000 by omega), last_loop n hn40 v.sure hsl v.ops]
end Go.Proofs.R3
namespace Go.Proofs.R3
open Go Go.AE

theorem callM_fine {o : Nat} (h : o < 9223372036854775807) : callM (o : Int) 0 false [] = (0, false, ((o + 1 : Nat) : Int), false) := by
  unfold callM
  rw [wrap64_nat h, if_neg (by decide), if_neg (by omega), if_neg (by simp)]
abbrev okW (at_ : Int) (d : List UInt8) : Prop := inR at_ 8 = true ∧ d.length = 64
theorem sure_write (at_ : Int) (d : List UInt8) (o : Nat) (sure : List (List UInt8)) (hs : sure.length = 8) (seen waits : Secs) (ho : o ≤ 1000) (hw : waits.length ≤ 1000) :
    ∃ e, fnDdisk_Disk_Write (at_, d, (o : Int), 0, false, sure, seen, waits, []) = some (e, ((o + 1 : Nat) : Int), false, if okW at_ d then mput at_ d seen else seen, if okW at_ d then waits ++ [(at_, d)] else waits) ∧ (e = 0 ↔ okW at_ d) := by
  rw [write_eq _ _ _ _ _ _ _ _ _ (by simp) (by omega), callM_fine (by omega), hs]
  by_cases h1 : inR at_ 8 = true
  · by_cases h2 : d.length = 64
    · have hk : okW at_ d := ⟨h1, h2⟩
      exact ⟨0, by rw [if_pos hk, if_pos hk]; simp [writeE, h1, h2], iff_of_true rfl hk⟩
    · have hk : ¬ okW at_ d := fun h => h2 h.2
      have h2' : ¬ ((d.length : Int) = 64) := by omega
      exact ⟨12, by rw [if_neg hk, if_neg hk]; simp [writeE, h1, h2'], iff_of_false (by omega) hk⟩
  · have hk : ¬ okW at_ d := fun h => h1 h.1
    have h1' : inR at_ 8 = false := by simpa using h1
    exact ⟨3, by rw [if_neg hk, if_neg hk]; simp [writeE, h1'], iff_of_false (by omega) hk⟩
theorem settle_mem (l : Secs) : ∀ (S : List (List UInt8)) (i : Nat) (x : List UInt8), (settleM S l)[i]? = some x → S[i]? = some x ∨ ∃ w ∈ l, w.1.toNat = i ∧ w.2 = x := by
  induction l with
  | nil => intro S i x h; exact .inl h
  | cons w r ih =>
    intro S i x h
    rcases ih (S.set w.1.toNat w.2) i x h with h | ⟨v, hv, h⟩
    · rw [List.getElem?_set] at h
      by_cases e : w.1.toNat = i
      · rw [if_pos e] at h
        split at h
        · cases h; exact .inr ⟨w, List.mem_cons_self .., e, rfl⟩
        · cases h
      · rw [if_neg e] at h; exact .inl h
    · exact .inr ⟨v, List.mem_cons_of_mem _ hv, h⟩
abbrev Fine (l : Secs) : Prop := ∀ w ∈ l, inR w.1 8 = true ∧ w.2.length = 64
theorem Fine.snoc {l : Secs} (h : Fine l) {a : Int} {d : List UInt8} (hk : okW a d) : Fine (l ++ [(a, d)]) := by
  intro w hw
  rw [List.mem_append, List.mem_singleton] at hw
  rcases hw with hw | rfl
  · exact h w hw
  · exact hk
theorem before_loop (a0 a1 : Secs) (a2 : List Int) (h : a0.length ≤ 60) :
    ∃ seen waits : Secs, loopD (stepDlaw08_DiskSure_n2 (a0, a1, a2, List.replicate 8 blank)) FUEL (0, 0, false, List.replicate 8 blank, [], []) = some ((a0.length : Int), false, settleM (List.replicate 8 blank) waits, seen, waits) ∧ waits.length ≤ 60 ∧ Fine waits := by
  have key : ∃ y, loopD (stepDlaw08_DiskSure_n2 (a0, a1, a2, List.replicate 8 blank)) FUEL (((0 : Nat) : Int), ((0 : Nat) : Int), false, settleM (List.replicate 8 blank) [], [], []) = some y ∧
      ∃ seen waits : Secs, y = ((a0.length : Int), false, settleM (List.replicate 8 blank) waits, seen, waits) ∧ waits.length ≤ 60 ∧ Fine waits := by
    refine loopD_each a0 (fun j (v : Secs × Secs) => ((j : Int), (j : Int), false, settleM (List.replicate 8 blank) v.2, v.1, v.2)) (fun j v => v.2.length ≤ j ∧ Fine v.2) _ ?_ ?_ (s0 := ([], [])) ⟨by simp, by simp [Fine]⟩ (by omega)
    · rintro j ⟨xa, xd⟩ ⟨seen, waits⟩ hj hlt ⟨h1, h2⟩
      left
      obtain ⟨e, hw, he⟩ := sure_write xa xd j (List.replicate 8 blank) (by simp) seen waits (by omega) (by simp only at h1; omega)
      by_cases hk : okW xa xd
      · refine ⟨(mput xa xd seen, waits ++ [(xa, xd)]), ?_, by simp only at h1; simp; omega, h2.snoc hk⟩
        obtain ⟨z, hz⟩ := inR_get (l := settleM (List.replicate 8 blank) waits) (at_ := xa) (by rw [settleM_length]; simpa using hk.1)
        simp only [stepDlaw08_DiskSure_n2, steplaw08_DiskSure_n2, nodeDlaw08_DiskSure_n3, nodelaw08_DiskSure_n3, dec_true (show (j : Int) < (a0.length : Int) by omega), cond_true, nth_of hj, bindO_pure, hw, unP, ibeq, dec_true (he.2 hk), if_pos hk, Bool.true_and, hk.1, hz, wrap64_nat (show j < 9223372036854775807 by omega), settleM_snoc]
      · refine ⟨(seen, waits), ?_, by simp only at h1; simp only; omega, h2⟩
        simp only [stepDlaw08_DiskSure_n2, steplaw08_DiskSure_n2, nodeDlaw08_DiskSure_n3, nodelaw08_DiskSure_n3, dec_true (show (j : Int) < (a0.length : Int) by omega), cond_true, nth_of hj, bindO_pure, hw, unP, ibeq, dec_false (fun h => hk (he.1 h)), if_neg hk, cond_false, wrap64_nat (show j < 9223372036854775807 by omega)]
    · rintro ⟨seen, waits⟩ ⟨h1, h2⟩
      simp only [stepDlaw08_DiskSure_n2, steplaw08_DiskSure_n2, dec_false (show ¬ (a0.length : Int) < (a0.length : Int) by omega), cond_false]
      exact ⟨_, rfl, seen, waits, rfl, by simp only at h1; omega, h2⟩
  obtain ⟨y, hy, seen, waits, rfl, h⟩ := key
  exact ⟨seen, waits, hy, h⟩
theorem behind_loop (a1 : Secs) (a2 : List Int) (S : List (List UInt8)) (hS : S.length = 8) (p : Nat) (hp : p ≤ 100) (h : a1.length ≤ 60) :
    ∃ seen waits : Secs, loopD (stepDlaw08_DiskSure_n5 (a1, a2, S, S)) FUEL (0, (p : Int), false, [], []) = some (((p + a1.length : Nat) : Int), false, seen, waits) ∧ waits.length ≤ 60 ∧ Fine waits ∧ ∀ w ∈ waits, w ∈ a1 := by
  have key : ∃ y, loopD (stepDlaw08_DiskSure_n5 (a1, a2, S, S)) FUEL (((0 : Nat) : Int), ((p + 0 : Nat) : Int), false, [], []) = some y ∧
      ∃ seen waits : Secs, y = (((p + a1.length : Nat) : Int), false, seen, waits) ∧ waits.length ≤ 60 ∧ Fine waits ∧ ∀ w ∈ waits, w ∈ a1 := by
    refine loopD_each a1 (fun j (v : Secs × Secs) => ((j : Int), ((p + j : Nat) : Int), false, v.1, v.2)) (fun j v => v.2.length ≤ j ∧ Fine v.2 ∧ ∀ w ∈ v.2, w ∈ a1) _ ?_ ?_ (s0 := ([], [])) ⟨by simp, by simp [Fine], by simp⟩ (by omega)
    · rintro j ⟨xa, xd⟩ ⟨seen, waits⟩ hj hlt ⟨h1, h2, h3⟩
      left
      obtain ⟨e, hw, he⟩ := sure_write xa xd (p + j) S hS seen waits (by omega) (by simp only at h1; omega)
      refine ⟨(if okW xa xd then mput xa xd seen else seen, if okW xa xd then waits ++ [(xa, xd)] else waits), ?_, ?_⟩
      · simp only [stepDlaw08_DiskSure_n5, steplaw08_DiskSure_n5, dec_true (show (j : Int) < (a1.length : Int) by omega), cond_true, nth_of hj, bindO_pure, hw, unP, wrap64_nat (show j < 9223372036854775807 by omega), Nat.add_assoc]
      · by_cases hk : okW xa xd
        · simp only [if_pos hk]
          refine ⟨by simp only at h1; simp; omega, h2.snoc hk, ?_⟩
          intro w hw
          rw [List.mem_append, List.mem_singleton] at hw
          rcases hw with hw | rfl
          · exact h3 w hw
          · exact List.mem_of_getElem? hj
        · simp only [if_neg hk]
          exact ⟨by simp only at h1; omega, h2, h3⟩
    · rintro ⟨seen, waits⟩ ⟨h1, h2, h3⟩
      simp only [stepDlaw08_DiskSure_n5, steplaw08_DiskSure_n5, dec_false (show ¬ (a1.length : Int) < (a1.length : Int) by omega), cond_false]
      exact ⟨_, rfl, seen, waits, rfl, by simp only at h1; omega, h2, h3⟩
  obtain ⟨y, hy, seen, waits, rfl, h⟩ := key
  exact ⟨seen, waits, hy, h⟩
theorem among_loop (a1 : Secs) (i : Int) (s : List UInt8) (o : Int) (S S' : List (List UInt8)) (b : Bool) (h : a1.length ≤ 60) :
    loopD (stepDlaw08_DiskSure_n8 (a1, i, s, 0, o, false, S, S')) FUEL (b, 0) = some (b || a1.any fun x => x.1 == i && x.2 == s) := by
  have key : ∃ y, loopD (stepDlaw08_DiskSure_n8 (a1, i, s, 0, o, false, S, S')) FUEL (b, ((0 : Nat) : Int)) = some y ∧ y = (b || a1.any fun x => x.1 == i && x.2 == s) := by
    refine loopD_each a1 (fun j (v : Bool) => (v, (j : Int))) (fun j v => v = (b || (a1.take j).any fun x => x.1 == i && x.2 == s)) _ ?_ ?_ (by simp) (by omega)
    · rintro j x v hj hlt hv
      left
      refine ⟨v || (x.1 == i && x.2 == s), ?_, ?_⟩
      · simp only [stepDlaw08_DiskSure_n8, steplaw08_DiskSure_n8, nodeDlaw08_DiskSure_n9, nodelaw08_DiskSure_n9, dec_true (show (j : Int) < (a1.length : Int) by omega), cond_true, nth_of hj, bindO_pure, wrap64_nat (show j < 9223372036854775807 by omega)]
        cases v <;> cases hx : (x.1 == i) <;> simp [bindO_pure]
      · rw [hv, List.take_add_one, hj, List.any_append]
        simp [Bool.or_assoc]
    · rintro v hv
      simp only [stepDlaw08_DiskSure_n8, steplaw08_DiskSure_n8, dec_false (show ¬ (a1.length : Int) < (a1.length : Int) by omega), cond_false]
      exact ⟨_, rfl, by rw [hv, List.take_length]⟩
  obtain ⟨y, hy, rfl⟩ := key
  exact hy
theorem sure_last (a1 : Secs) (h : a1.length ≤ 60) (S : List (List UInt8)) (hS : S.length = 8) (h64 : ∀ x ∈ S, x.length = 64) (l : Secs) (hl : Fine l) (hm : ∀ w ∈ l, w ∈ a1) (p : Nat) (hp : p ≤ 1000) :
    loopD (stepDlaw08_DiskSure_n6 (a1, S, settleM S l)) FUEL (0, (p : Int), false) = some (.inr ()) := by
  have key : ∃ y, loopD (stepDlaw08_DiskSure_n6 (a1, S, settleM S l)) FUEL (0, (p : Int), false) = some y ∧ y = .inr () := by
    refine loopD_inv (fun j v => j ≤ 8 ∧ v = ((j : Int), ((p + j : Nat) : Int), false)) 8 _ ?_ ⟨by omega, rfl⟩ (by omega)
    rintro j v ⟨hj, rfl⟩
    by_cases hlt : j < 8
    · left
      refine ⟨_, ?_, hlt, hlt, rfl⟩
      have hr : inR (j : Int) 8 = true := inR_true ⟨by omega, by omega⟩
      obtain ⟨x, hx⟩ := inR_get (l := S) (at_ := (j : Int)) (by rw [hS]; exact hr)
      obtain ⟨s, hs⟩ := inR_get (l := settleM S l) (at_ := (j : Int)) (by rw [settleM_length, hS]; exact hr)
      have hrd : fnDdisk_Disk_Read ((j : Int), ((p + j : Nat) : Int), 0, false, settleM S l, [], [], []) = some (s, 0, ((p + j + 1 : Nat) : Int), false) := by
        rw [read_eq _ _ _ _ _ _ _ _ (by simp), callM_fine (by omega), settleM_length, hS]
        simp [readR, hr, look, mhas]
        rw [show j = ((j : Int)).toNat by simp, hs]; rfl
      have hlen : s.length = 64 := by
        rcases settle_mem l S _ s hs with h | ⟨w, hw, _, rfl⟩
        · exact h64 s (List.mem_of_getElem? h)
        · exact (hl w hw).2
      have hany : ((s == x) || a1.any fun y => y.1 == (j : Int) && y.2 == s) = true := by
        rcases settle_mem l S _ s hs with h | ⟨w, hw, hwi, rfl⟩
        · rw [hx] at h; cases h; simp
        · have h0 := (hl w hw).1
          have h1 : 0 ≤ w.1 ∧ w.1 < ((8 : Nat) : Int) := by unfold inR at h0; simpa using h0
          rw [Bool.or_eq_true]
          right
          rw [List.any_eq_true]
          refine ⟨w, hm w hw, ?_⟩
          have : w.1 = (j : Int) := by rw [Int.toNat_natCast] at hwi; omega
          simp [this]
      simp only [stepDlaw08_DiskSure_n6, steplaw08_DiskSure_n6, nodeDlaw08_DiskSure_n7, nodelaw08_DiskSure_n7, nodeDlaw08_DiskSure_n10, nodelaw08_DiskSure_n10, dec_true (show (j : Int) < (8 : Int) by omega), cond_true, hrd, bindO_pure, unP, Bool.true_and, hr, hx, among_loop a1 _ _ _ _ _ _ h, hany, Bool.not_true, cond_false, hlen, wrap64_nat (show j < 9223372036854775807 by omega), Nat.add_assoc]
      rfl
    · right
      obtain rfl : j = 8 := by omega
      exact ⟨_, rfl, rfl⟩
  obtain ⟨y, hy, rfl⟩ := key
  exact hy
theorem DiskSure_true (a0 a1 : Secs) (a2 : List Int) (hw : a2.length ≤ 9223372036854775807) : fnDlaw08_DiskSure (a0, a1, a2) = some true := by
  have hnew : fnDdisk_New 8 = some (List.replicate 8 blank) := diskNew_eq 8 8 rfl (by omega)
  have h1 : loopD (stepDlaw08_DiskSure_n1 (a0, a1, a2, List.replicate 8 blank)) FUEL (0, [[], [], [], [], [], [], [], []]) = some (List.replicate 8 blank) := by kernel_rfl
  simp only [fnDlaw08_DiskSure, fnlaw08_DiskSure, diskworks, bindO_pure, Bool.not_true, cond_false, nodeDlaw08_DiskSure_n0, nodelaw08_DiskSure_n0]
  by_cases c0 : (a0.length : Int) > 60
  · rw [dec_true c0]; rfl
  by_cases c1 : (a1.length : Int) > 60
  · rw [dec_false c0, dec_true c1]; rfl
  by_cases c2 : (a2.length : Int) > 300
  · rw [dec_false c0, dec_false c1, dec_true c2]; rfl
  obtain ⟨seen, waits, hb, hbl, hbf⟩ := before_loop a0 a1 a2 (by omega)
  obtain ⟨seen2, waits2, hc, hcl, hcf, hcm⟩ := behind_loop a1 a2 (settleM (List.replicate 8 blank) waits) (by rw [settleM_length]; simp) (a0.length + 1) (by omega) (by omega)
  have h64 : ∀ x ∈ settleM (List.replicate 8 blank) waits, x.length = 64 := by
    intro x hx
    obtain ⟨i, hi, rfl⟩ := List.mem_iff_getElem.1 hx
    rcases settle_mem waits _ i _ (List.getElem?_eq_getElem hi) with h | ⟨w, hw, _, h⟩
    · have := List.mem_of_getElem? h
      rw [List.eq_of_mem_replicate this]; rfl
    · rw [← h]; exact (hbf w hw).2
  have hr : ∀ w ∈ waits, inR w.1 (List.replicate 8 blank).length = true := fun w hw => by simpa using (hbf w hw).1
  have hr2 : ∀ w ∈ waits2, inR w.1 (settleM (List.replicate 8 blank) waits).length = true := fun w hw => by rw [settleM_length]; simpa using (hcf w hw).1
  have hfl : fnDdisk_Disk_Flush ((a0.length : Int), 0, false, List.replicate 8 blank, seen, waits, []) = some (.inl (0, ((a0.length + 1 : Nat) : Int), false, settleM (List.replicate 8 blank) waits)) := by
    rw [flush_eq _ _ _ _ _ _ _ (by simp) (by omega) hr, callM_fine (by omega)]; rfl
  have hlast := sure_last a1 (by omega) (settleM (List.replicate 8 blank) waits) (by rw [settleM_length]; simp) h64 (chosen a2 0 waits2) (fun w h => hcf w (chosen_mem a2 h)) (fun w h => hcm w (chosen_mem a2 h)) (a0.length + 1 + a1.length) (by omega)
  simp only [dec_false c0, dec_false c1, dec_false c2, cond_false, bindO_pure, hnew, h1, hb, unP, nodeDlaw08_DiskSure_n4, nodelaw08_DiskSure_n4, hfl, Sum.elim_inl, fnDdisk_Disk_Waits, fndisk_Disk_Waits, List.length_nil]
  have e0 : ((0 : Int) != 0) = false := rfl
  have e1 : ((((0 : Nat) : Int)) != 0) = false := rfl
  simp only [e0, e1, cond_false, bindO_pure, unP, hc, restart2_eq a2 _ _ _ _ _ _ _ (show waits2.length ≤ 1000000 by omega) hr2, hlast, Sum.elim_inr]
end Go.Proofs.R3

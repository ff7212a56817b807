/- What the functions that JournalCodesCardSaid reaches compute: part 6. -/
import Derived.Test.YtjgghofdajambaaGreatDoorOwnJournalCodesCardSaid5
set_option linter.unusedVariables false
set_option linter.unusedSimpArgs false
namespace Go.Proofs.R7J
open Go Go.AE
open Go.Proofs.R7 (tabOk mixed Flaw19_works Flaw19_works_ok fnDlaw19_works Fstrings_Repeat_ok FBuilder_copyCheck_ok FBuilder_String_ok FBuilder_StringAgain_ok iter205_spec)
set_option maxRecDepth 100000
--@ ref03_Of
noncomputable def envq55 : Env := []
theorem envq55Ok : EnvOk Tryz.prog envq55 := EnvOk.nil
noncomputable def bq55 : Code := Tryz.f187.body.getD .skip
noncomputable def Lq55_n2 : Code := codeAt [1,1,0,1,0,0,1,0,0,1,1,0,0,1,0] bq55
noncomputable def annLq55_n2 : Ann := .none
theorem annLq55_n2_ok : AnnOk Tryz.prog 33 Lq55_n2 annLq55_n2 := (annOk_none _ _ _)
abbrev Iq55_n2 := (List UInt8) × (Int) × (Int) × (Int)
abbrev Yq55_n2 := (Int)
def Sq55_n2 : Iq55_n2 → St := fun (t0,t3,t4,t5) => { env := [(0,.str t0),(3,.int .i64 t3),(4,.int .i64 t4),(5,.int .i64 t5)],stk := [[]],H := [],blk := 765954 }
def decPq55_n2 (s : St) : Option {x : Iq55_n2 // s = Sq55_n2 x} := match s with
  | { env := [(0,.str t0),(3,.int .i64 t3),(4,.int .i64 t4),(5,.int .i64 t5)],stk := [[]],H := [],blk := 765954 } => some ⟨(t0,t3,t4,t5),rfl⟩
  | _ => none
def decq55_n2 (s : St) : Option Iq55_n2 := pk (decPq55_n2 s)
theorem decq55_n2_ok (s : St) (x : Iq55_n2) (h : decq55_n2 s = some x) : s = Sq55_n2 x := pk_ok (o := decPq55_n2 s) h
def outq55_n2 : Iq55_n2 → (Ex → St → Ans) → Yq55_n2 → Ans := fun (t0,t3,t4,t5) K => fun t3_y => K (Ex.norm) { env := [(0,.str t0),(3,.int .i64 t3_y),(4,.int .i64 t4),(5,.int .i64 t5)],stk := [[]],H := [],blk := 765955 }
def nodeq55_n2 {β : Type} : Iq55_n2 → (Yq55_n2 → Option β) → Option β := fun (t0,t3,t4,t5) exit => (bif Int.tmod t3 (2 : Int) == (1 : Int) then (exit (IntKind.wrap .i64 (↑(Int.toNat (IntKind.wrap .i64 (Int.tdiv t3 (2 : Int)) % (18446744073709551616 : Int)) ^^^ (3988292384 : Nat)) : Int))) else (exit (IntKind.wrap .i64 (Int.tdiv t3 (2 : Int)))))
def nodeDq55_n2 (i : Iq55_n2) : Option Yq55_n2 := nodeq55_n2 i some
theorem nodeq55_n2_nat (i : Iq55_n2) (k : Yq55_n2 → Ans) : nodeq55_n2 i k = bindO (nodeDq55_n2 i) k := by
  obtain ⟨t0,t3,t4,t5⟩ := i
  simp only [nodeDq55_n2,nodeq55_n2,bindO_cond,bindO_assoc,bindO_none,bindO_pure,bindO_elim,bindO_unP,bindO_empty]
theorem nodeq55_n2_ok (i : Iq55_n2) (K : Ex → St → Ans) : codeI Tryz.tab envq55 noHint (codeD Tryz.tab envq55 noHint 0 64) 70 33 annLq55_n2 Lq55_n2 (weakP 0 (exk [0,3,4,5] [2] []) K) (Sq55_n2 i) = nodeq55_n2 i (outq55_n2 i K) := by kernel_rfl
theorem GNq55_n2_ok : CSum Tryz.prog 33 Lq55_n2 (sumN decq55_n2 nodeDq55_n2 outq55_n2) := csum_node mixed tabOk envq55Ok 0 (exk [0,3,4,5] [2] []) annLq55_n2_ok decq55_n2_ok nodeq55_n2_ok nodeq55_n2_nat
noncomputable def Gq55_n2 : (Ex → St → Ans) → St → Ans := (sumN decq55_n2 nodeDq55_n2 outq55_n2)
theorem Gq55_n2_ok : CSum Tryz.prog 33 Lq55_n2 Gq55_n2 := GNq55_n2_ok
noncomputable def Lq55_n1 : Code := codeAt [1,1,0,1,0,0,1,0,0,1,1,0,0] bq55
noncomputable def annLq55_n1 : Ann := .at 0 [0,3,4,5] (.loop (.seq .none (.seq (.cut 0 [0,3,4,5] Gq55_n2) .none)))
theorem annLq55_n1_ok : AnnOk Tryz.prog 33 (.loop Lq55_n1) annLq55_n1 := annOk_at ⟨(annOk_none _ _ _),⟨Gq55_n2_ok,(annOk_none _ _ _)⟩⟩
abbrev Iq55_n1 := (List UInt8) × (Int)
abbrev Yq55_n1 := (Int)
abbrev Vq55_n1 := (Int) × (Int)
def Sq55_n1 : Iq55_n1 → Vq55_n1 → St := fun (t0,t4) (t3,t5) => { env := [(0,.str t0),(3,.int .i64 t3),(4,.int .i64 t4),(5,.int .i64 t5)],stk := [[]],H := [],blk := 765954 }
def decPq55_n1 (s : St) : Option {x : Iq55_n1 × Vq55_n1 // s = Sq55_n1 x.1 x.2} := match s with
  | { env := [(0,.str t0),(3,.int .i64 t3),(4,.int .i64 t4),(5,.int .i64 t5)],stk := [[]],H := [],blk := 765954 } => some ⟨((t0,t4),(t3,t5)),rfl⟩
  | _ => none
def decq55_n1 (s : St) : Option (Iq55_n1 × Vq55_n1) := pk (decPq55_n1 s)
theorem decq55_n1_ok (s : St) (x : Iq55_n1 × Vq55_n1) (h : decq55_n1 s = some x) : s = Sq55_n1 x.1 x.2 := pk_ok (o := decPq55_n1 s) h
def outq55_n1 : Iq55_n1 → (Ex → St → Ans) → Yq55_n1 → Ans := fun (t0,t4) K => fun t3_y => K (Ex.exit 2) { env := [(0,.str t0),(3,.int .i64 t3_y),(4,.int .i64 t4)],stk := [[]],H := [],blk := 765954 }
def stepq55_n1 {β : Type} : Iq55_n1 → Vq55_n1 → (Vq55_n1 → Option β) → (Yq55_n1 → Option β) → Option β := fun (t0,t4) (t3,t5) next exit => (bif decide (t5 < (8 : Int)) then (bindO (nodeDq55_n2 (t0,t3,t4,t5)) fun t3_2 => (next (t3_2,IntKind.wrap .i64 (t5 + (1 : Int))))) else (exit (t3)))
def stepDq55_n1 (i : Iq55_n1) (v : Vq55_n1) : Option (Vq55_n1 ⊕ Yq55_n1) := stepq55_n1 i v (fun v => some (.inl v)) (fun y => some (.inr y))
theorem stepq55_n1_nat (i : Iq55_n1) (v : Vq55_n1) (next : Vq55_n1 → Ans) (exit : Yq55_n1 → Ans) : stepq55_n1 i v next exit = bindO (stepDq55_n1 i v) (Sum.elim next exit) := by
  obtain ⟨t0,t4⟩ := i
  obtain ⟨t3,t5⟩ := v
  simp only [stepDq55_n1,stepq55_n1,bindO_cond,bindO_assoc,bindO_none,bindO_pure,bindO_elim,bindO_unP,bindO_empty,Sum.elim_inl,Sum.elim_inr]
theorem stepq55_n1_ok (n : Nat) (i : Iq55_n1) (v : Vq55_n1) (K : Ex → St → Ans) : codeI Tryz.tab envq55 noHint (codeD Tryz.tab envq55 noHint 0 64) (n+1) 33 annLq55_n1 (.loop Lq55_n1) (weakP 0 (exk [0,3,4] [2] [(2,[0,3,4])]) K) (Sq55_n1 i v) = stepq55_n1 i v (fun v' => codeI Tryz.tab envq55 noHint (codeD Tryz.tab envq55 noHint 0 64) n 33 annLq55_n1 (.loop Lq55_n1) (weakP 0 (exk [0,3,4] [2] [(2,[0,3,4])]) K) (Sq55_n1 i v')) (fun y => outq55_n1 i K y) := by kernel_rfl
theorem GNq55_n1_ok : CSum Tryz.prog 33 (.loop Lq55_n1) (sumL decq55_n1 stepDq55_n1 outq55_n1) := csum_loop mixed tabOk envq55Ok 0 (exk [0,3,4] [2] [(2,[0,3,4])]) annLq55_n1_ok decq55_n1_ok stepq55_n1_ok stepq55_n1_nat
noncomputable def Gq55_n1 : (Ex → St → Ans) → St → Ans := (sumL decq55_n1 stepDq55_n1 outq55_n1)
theorem Gq55_n1_ok : CSum Tryz.prog 33 (.loop Lq55_n1) Gq55_n1 := GNq55_n1_ok
noncomputable def Lq55_n0 : Code := codeAt [1,1,0,1,0,0] bq55
noncomputable def annLq55_n0 : Ann := .at 0 [0,3,4] (.loop (.seq .none (.seq (.block (.seq .none (.seq .none (.block (.cut 0 [0,3,4,5] Gq55_n1))))) .none)))
theorem annLq55_n0_ok : AnnOk Tryz.prog 33 (.loop Lq55_n0) annLq55_n0 := annOk_at ⟨(annOk_none _ _ _),⟨⟨(annOk_none _ _ _),⟨(annOk_none _ _ _),Gq55_n1_ok⟩⟩,(annOk_none _ _ _)⟩⟩
abbrev Iq55_n0 := (List UInt8)
abbrev Yq55_n0 := (Int)
abbrev Vq55_n0 := (Int) × (Int)
def Sq55_n0 : Iq55_n0 → Vq55_n0 → St := fun t0 (t3,t4) => { env := [(0,.str t0),(3,.int .i64 t3),(4,.int .i64 t4)],stk := [[]],H := [],blk := 765952 }
def decPq55_n0 (s : St) : Option {x : Iq55_n0 × Vq55_n0 // s = Sq55_n0 x.1 x.2} := match s with
  | { env := [(0,.str t0),(3,.int .i64 t3),(4,.int .i64 t4)],stk := [[]],H := [],blk := 765952 } => some ⟨(t0,(t3,t4)),rfl⟩
  | _ => none
def decq55_n0 (s : St) : Option (Iq55_n0 × Vq55_n0) := pk (decPq55_n0 s)
theorem decq55_n0_ok (s : St) (x : Iq55_n0 × Vq55_n0) (h : decq55_n0 s = some x) : s = Sq55_n0 x.1 x.2 := pk_ok (o := decPq55_n0 s) h
def outq55_n0 : Iq55_n0 → (Ex → St → Ans) → Yq55_n0 → Ans := fun t0 K => fun t3_y => K (Ex.exit 0) { env := [(3,.int .i64 t3_y)],stk := [[]],H := [],blk := 765952 }
def stepq55_n0 {β : Type} : Iq55_n0 → Vq55_n0 → (Vq55_n0 → Option β) → (Yq55_n0 → Option β) → Option β := fun t0 (t3,t4) next exit => (bif decide (t4 < (↑(List.length t0) : Int)) then (bindO (nth t0 t4) fun x => (bindO (loopD (stepDq55_n1 (t0,t4)) FUEL (IntKind.wrap .i64 (↑(Int.toNat (t3 % (18446744073709551616 : Int)) ^^^ Int.toNat (IntKind.wrap .i64 (↑(UInt8.toNat x) : Int) % (18446744073709551616 : Int))) : Int),(0 : Int))) fun t3_2 => (next (t3_2,IntKind.wrap .i64 (t4 + (1 : Int)))))) else (exit (t3)))
def stepDq55_n0 (i : Iq55_n0) (v : Vq55_n0) : Option (Vq55_n0 ⊕ Yq55_n0) := stepq55_n0 i v (fun v => some (.inl v)) (fun y => some (.inr y))
theorem stepq55_n0_nat (i : Iq55_n0) (v : Vq55_n0) (next : Vq55_n0 → Ans) (exit : Yq55_n0 → Ans) : stepq55_n0 i v next exit = bindO (stepDq55_n0 i v) (Sum.elim next exit) := by
  obtain z := i
  obtain ⟨t3,t4⟩ := v
  simp only [stepDq55_n0,stepq55_n0,bindO_cond,bindO_assoc,bindO_none,bindO_pure,bindO_elim,bindO_unP,bindO_empty,Sum.elim_inl,Sum.elim_inr]
theorem stepq55_n0_ok (n : Nat) (i : Iq55_n0) (v : Vq55_n0) (K : Ex → St → Ans) : codeI Tryz.tab envq55 noHint (codeD Tryz.tab envq55 noHint 0 64) (n+1) 33 annLq55_n0 (.loop Lq55_n0) (weakP 0 (exk [3] [2] [(0,[3])]) K) (Sq55_n0 i v) = stepq55_n0 i v (fun v' => codeI Tryz.tab envq55 noHint (codeD Tryz.tab envq55 noHint 0 64) n 33 annLq55_n0 (.loop Lq55_n0) (weakP 0 (exk [3] [2] [(0,[3])]) K) (Sq55_n0 i v')) (fun y => outq55_n0 i K y) := by kernel_rfl
theorem GNq55_n0_ok : CSum Tryz.prog 33 (.loop Lq55_n0) (sumL decq55_n0 stepDq55_n0 outq55_n0) := csum_loop mixed tabOk envq55Ok 0 (exk [3] [2] [(0,[3])]) annLq55_n0_ok decq55_n0_ok stepq55_n0_ok stepq55_n0_nat
noncomputable def Gq55_n0 : (Ex → St → Ans) → St → Ans := (sumL decq55_n0 stepDq55_n0 outq55_n0)
theorem Gq55_n0_ok : CSum Tryz.prog 33 (.loop Lq55_n0) Gq55_n0 := GNq55_n0_ok
noncomputable def annq55 : Ann := (.seq .none (.seq .none (.seq (.seq .none (.block (.cut 0 [0,3,4] Gq55_n0))) .none)))
theorem annq55_ok : AnnOk Tryz.prog 33 bq55 annq55 := ⟨(annOk_none _ _ _),⟨(annOk_none _ _ _),⟨⟨(annOk_none _ _ _),Gq55_n0_ok⟩,(annOk_none _ _ _)⟩⟩⟩
abbrev Aq55 := (List UInt8)
abbrev Yq55 := (Int)
def fnq55 {β : Type} : Aq55 → (Yq55 → Option β) → Option β := fun a0 exit => (bindO (loopD (stepDq55_n0 (a0)) FUEL ((4294967295 : Int),(0 : Int))) fun t3 => (exit (IntKind.wrap .i64 (↑(Int.toNat (t3 % (18446744073709551616 : Int)) ^^^ (4294967295 : Nat)) : Int))))
def fnDq55 (a : Aq55) : Option Yq55 := fnq55 a some
theorem fnq55_nat (a : Aq55) (k : Yq55 → Ans) : fnq55 a k = bindO (fnDq55 a) k := by
  obtain z := a
  simp only [fnDq55,fnq55,bindO_cond,bindO_assoc,bindO_none,bindO_pure,bindO_elim,bindO_unP,bindO_empty]
def argsq55 : Aq55 → List AV := fun a0 => [.str a0]
def decPAq55 (l : List AV) : Option {a : Aq55 // l = argsq55 a} := match l with
  | [.str a0] => some ⟨(a0),rfl⟩
  | _ => none
def decAq55 (l : List AV) : Option Aq55 := pk (decPAq55 l)
theorem decAq55_ok (l : List AV) (a : Aq55) (h : decAq55 l = some a) : l = argsq55 a := pk_ok (o := decPAq55 l) h
def rendq55 : Aq55 → Yq55 → AV := fun a0 => fun r_y => .int .i64 r_y
theorem rendq55_ok : ∀ (a : Aq55) (y : Yq55),(rendq55 a y).closed1 = true := by
  rintro z y <;> first | rfl | exact Empty.elim y
theorem fnq55_ok (a : Aq55) : fnE Tryz.tab envq55 noHint 0 70 187 Tryz.f187.ntmps Tryz.f187.results.toList annq55 bq55 (argsq55 a) [] (fun v _ => some (v,[])) = fnq55 a (fun y => some (rendq55 a y,[])) := by kernel_rfl
def vFq55 (a : Aq55) (K : AV → Ans) : Ans := bindO (fnDq55 a) fun y => K (rendq55 a y)
def Fq55 : List AV → (AV → Ans) → Ans := fun l K => bindO (decAq55 l) fun a => vFq55 a K
theorem Fq55_ok : PureOk Tryz.prog 187 Fq55 := pure_mkD (hint := noHint) (d := 0) (n := 70) mixed tabOk envq55Ok Tryz.func187 (bodySome (by kernel_rfl)) (by decide +kernel) annq55_ok decAq55_ok fnq55_ok fnq55_nat rendq55_ok
--@ ref03_Tail
noncomputable def envq56 : Env := [(187,.pure Fq55)]
theorem envq56Ok : EnvOk Tryz.prog envq56 := EnvOk.cons Fq55_ok (EnvOk.nil)
noncomputable def bq56 : Code := Tryz.f126.body.getD .skip
noncomputable def annq56 : Ann := .none
theorem annq56_ok : AnnOk Tryz.prog 23 bq56 annq56 := (annOk_none _ _ _)
abbrev Aq56 := (List UInt8)
abbrev Yq56 := (List UInt8)
def fnq56 {β : Type} : Aq56 → (Yq56 → Option β) → Option β := fun a0 exit => (bindO (fnDq55 (a0)) fun r => (exit (bytesOf [IntKind.wrap .u8 (Int.tmod r (256 : Int)),IntKind.wrap .u8 (Int.tmod (IntKind.wrap .i64 (Int.tdiv r (256 : Int))) (256 : Int)),IntKind.wrap .u8 (Int.tmod (IntKind.wrap .i64 (Int.tdiv r (65536 : Int))) (256 : Int)),IntKind.wrap .u8 (Int.tmod (IntKind.wrap .i64 (Int.tdiv r (16777216 : Int))) (256 : Int))])))
def fnDq56 (a : Aq56) : Option Yq56 := fnq56 a some
theorem fnq56_nat (a : Aq56) (k : Yq56 → Ans) : fnq56 a k = bindO (fnDq56 a) k := by
  obtain z := a
  simp only [fnDq56,fnq56,bindO_cond,bindO_assoc,bindO_none,bindO_pure,bindO_elim,bindO_unP,bindO_empty]
def argsq56 : Aq56 → List AV := fun a0 => [.str a0]
def decPAq56 (l : List AV) : Option {a : Aq56 // l = argsq56 a} := match l with
  | [.str a0] => some ⟨(a0),rfl⟩
  | _ => none
def decAq56 (l : List AV) : Option Aq56 := pk (decPAq56 l)
theorem decAq56_ok (l : List AV) (a : Aq56) (h : decAq56 l = some a) : l = argsq56 a := pk_ok (o := decPAq56 l) h
def rendq56 : Aq56 → Yq56 → AV := fun a0 => fun r_y => .str r_y
theorem rendq56_ok : ∀ (a : Aq56) (y : Yq56),(rendq56 a y).closed1 = true := by
  rintro z y <;> first | rfl | exact Empty.elim y
theorem fnq56_ok (a : Aq56) : fnE Tryz.tab envq56 noHint 0 70 126 Tryz.f126.ntmps Tryz.f126.results.toList annq56 bq56 (argsq56 a) [] (fun v _ => some (v,[])) = fnq56 a (fun y => some (rendq56 a y,[])) := by kernel_rfl
def vFq56 (a : Aq56) (K : AV → Ans) : Ans := bindO (fnDq56 a) fun y => K (rendq56 a y)
def Fq56 : List AV → (AV → Ans) → Ans := fun l K => bindO (decAq56 l) fun a => vFq56 a K
theorem Fq56_ok : PureOk Tryz.prog 126 Fq56 := pure_mkD (hint := noHint) (d := 0) (n := 70) mixed tabOk envq56Ok Tryz.func126 (bodySome (by kernel_rfl)) (by decide +kernel) annq56_ok decAq56_ok fnq56_ok fnq56_nat rendq56_ok
--@ ref09_Pad
noncomputable def envq61 : Env := []
theorem envq61Ok : EnvOk Tryz.prog envq61 := EnvOk.nil
noncomputable def bq61 : Code := Tryz.f125.body.getD .skip
noncomputable def Lq61_n0 : Code := codeAt [1,0,0,0] bq61
noncomputable def annLq61_n0 : Ann := .at 0 [0] (.loop .none)
theorem annLq61_n0_ok : AnnOk Tryz.prog 10 (.loop Lq61_n0) annLq61_n0 := annOk_at (annOk_none _ _ _)
abbrev Iq61_n0 := Unit
abbrev Yq61_n0 := (List UInt8)
abbrev Vq61_n0 := (List UInt8)
def Sq61_n0 : Iq61_n0 → Vq61_n0 → St := fun _ t0 => { env := [(0,.str t0)],stk := [[]],H := [],blk := 512000 }
def decPq61_n0 (s : St) : Option {x : Iq61_n0 × Vq61_n0 // s = Sq61_n0 x.1 x.2} := match s with
  | { env := [(0,.str t0)],stk := [[]],H := [],blk := 512000 } => some ⟨((),t0),rfl⟩
  | _ => none
def decq61_n0 (s : St) : Option (Iq61_n0 × Vq61_n0) := pk (decPq61_n0 s)
theorem decq61_n0_ok (s : St) (x : Iq61_n0 × Vq61_n0) (h : decq61_n0 s = some x) : s = Sq61_n0 x.1 x.2 := pk_ok (o := decPq61_n0 s) h
def outq61_n0 : Iq61_n0 → (Ex → St → Ans) → Yq61_n0 → Ans := fun _ K => fun t0_y => K (Ex.exit 0) { env := [(0,.str t0_y)],stk := [[]],H := [],blk := 512000 }
def stepq61_n0 {β : Type} : Iq61_n0 → Vq61_n0 → (Vq61_n0 → Option β) → (Yq61_n0 → Option β) → Option β := fun _ t0 next exit => (bif Int.tmod (↑(List.length t0) : Int) (64 : Int) != (0 : Int) then (bif Nat.ble (List.length t0 + (1 : Nat)) (9223372036854775807 : Nat) then (next (t0 ++ [(0 : UInt8)])) else none) else (exit (t0)))
def stepDq61_n0 (i : Iq61_n0) (v : Vq61_n0) : Option (Vq61_n0 ⊕ Yq61_n0) := stepq61_n0 i v (fun v => some (.inl v)) (fun y => some (.inr y))
theorem stepq61_n0_nat (i : Iq61_n0) (v : Vq61_n0) (next : Vq61_n0 → Ans) (exit : Yq61_n0 → Ans) : stepq61_n0 i v next exit = bindO (stepDq61_n0 i v) (Sum.elim next exit) := by
  obtain z := i
  obtain z := v
  simp only [stepDq61_n0,stepq61_n0,bindO_cond,bindO_assoc,bindO_none,bindO_pure,bindO_elim,bindO_unP,bindO_empty,Sum.elim_inl,Sum.elim_inr]
theorem stepq61_n0_ok (n : Nat) (i : Iq61_n0) (v : Vq61_n0) (K : Ex → St → Ans) : codeI Tryz.tab envq61 noHint (codeD Tryz.tab envq61 noHint 0 64) (n+1) 10 annLq61_n0 (.loop Lq61_n0) (weakP 0 (exk [0] [2] [(0,[0])]) K) (Sq61_n0 i v) = stepq61_n0 i v (fun v' => codeI Tryz.tab envq61 noHint (codeD Tryz.tab envq61 noHint 0 64) n 10 annLq61_n0 (.loop Lq61_n0) (weakP 0 (exk [0] [2] [(0,[0])]) K) (Sq61_n0 i v')) (fun y => outq61_n0 i K y) := by kernel_rfl
theorem GNq61_n0_ok : CSum Tryz.prog 10 (.loop Lq61_n0) (sumL decq61_n0 stepDq61_n0 outq61_n0) := csum_loop mixed tabOk envq61Ok 0 (exk [0] [2] [(0,[0])]) annLq61_n0_ok decq61_n0_ok stepq61_n0_ok stepq61_n0_nat
noncomputable def Gq61_n0 : (Ex → St → Ans) → St → Ans := (sumL decq61_n0 stepDq61_n0 outq61_n0)
theorem Gq61_n0_ok : CSum Tryz.prog 10 (.loop Lq61_n0) Gq61_n0 := GNq61_n0_ok
noncomputable def annq61 : Ann := (.seq .none (.seq (.block (.cut 0 [0] Gq61_n0)) .none))
theorem annq61_ok : AnnOk Tryz.prog 10 bq61 annq61 := ⟨(annOk_none _ _ _),⟨Gq61_n0_ok,(annOk_none _ _ _)⟩⟩
abbrev Aq61 := (List UInt8)
abbrev Yq61 := (List UInt8)
def fnq61 {β : Type} : Aq61 → (Yq61 → Option β) → Option β := fun a0 exit => (bindO (loopD (stepDq61_n0 ()) FUEL (a0)) fun t0 => (exit (t0)))
def fnDq61 (a : Aq61) : Option Yq61 := fnq61 a some
theorem fnq61_nat (a : Aq61) (k : Yq61 → Ans) : fnq61 a k = bindO (fnDq61 a) k := by
  obtain z := a
  simp only [fnDq61,fnq61,bindO_cond,bindO_assoc,bindO_none,bindO_pure,bindO_elim,bindO_unP,bindO_empty]
def argsq61 : Aq61 → List AV := fun a0 => [.str a0]
def decPAq61 (l : List AV) : Option {a : Aq61 // l = argsq61 a} := match l with
  | [.str a0] => some ⟨(a0),rfl⟩
  | _ => none
def decAq61 (l : List AV) : Option Aq61 := pk (decPAq61 l)
theorem decAq61_ok (l : List AV) (a : Aq61) (h : decAq61 l = some a) : l = argsq61 a := pk_ok (o := decPAq61 l) h
def rendq61 : Aq61 → Yq61 → AV := fun a0 => fun r_y => .str r_y
theorem rendq61_ok : ∀ (a : Aq61) (y : Yq61),(rendq61 a y).closed1 = true := by
  rintro z y <;> first | rfl | exact Empty.elim y
theorem fnq61_ok (a : Aq61) : fnE Tryz.tab envq61 noHint 0 70 125 Tryz.f125.ntmps Tryz.f125.results.toList annq61 bq61 (argsq61 a) [] (fun v _ => some (v,[])) = fnq61 a (fun y => some (rendq61 a y,[])) := by kernel_rfl
def vFq61 (a : Aq61) (K : AV → Ans) : Ans := bindO (fnDq61 a) fun y => K (rendq61 a y)
def Fq61 : List AV → (AV → Ans) → Ans := fun l K => bindO (decAq61 l) fun a => vFq61 a K
theorem Fq61_ok : PureOk Tryz.prog 125 Fq61 := pure_mkD (hint := noHint) (d := 0) (n := 70) mixed tabOk envq61Ok Tryz.func125 (bodySome (by kernel_rfl)) (by decide +kernel) annq61_ok decAq61_ok fnq61_ok fnq61_nat rendq61_ok
--@ ref19_Put
noncomputable def envq67 : Env := [(124,.pure Fq54),(59,.func Fq59),(126,.pure Fq56),(125,.pure Fq61)]
theorem envq67Ok : EnvOk Tryz.prog envq67 := EnvOk.cons Fq54_ok (EnvOk.cons Fq59_ok (EnvOk.cons Fq56_ok (EnvOk.cons Fq61_ok (EnvOk.nil))))
noncomputable def bq67 : Code := Tryz.f55.body.getD .skip
noncomputable def annq67 : Ann := .none
theorem annq67_ok : AnnOk Tryz.prog 25 bq67 annq67 := (annOk_none _ _ _)
abbrev Aq67 := (List Bool)
abbrev Yq67 := (List UInt8) × (Int)
def fnq67 {β : Type} : Aq67 → (Yq67 → Option β) → Option β := fun o1 exit => (bif decide ((↑(List.length o1) : Int) > (24 : Int)) then (exit ([],(3 : Int))) else (bindO (fnDq54 ([(74 : UInt8)],(↑(List.length o1) : Int),(1 : Int))) fun r => (bindO (fnDq59 (o1)) fun r_2 => (bif Nat.ble (List.length r + List.length r_2) (9223372036854775807 : Nat) then (bindO (fnDq56 (r ++ r_2)) fun r_3 => (bif Nat.ble (List.length (r ++ r_2) + List.length r_3) (9223372036854775807 : Nat) then (bindO (fnDq61 (r ++ r_2 ++ r_3)) fun r_4 => (exit (r_4,(0 : Int)))) else none)) else none))))
def fnDq67 (a : Aq67) : Option Yq67 := fnq67 a some
theorem fnq67_nat (a : Aq67) (k : Yq67 → Ans) : fnq67 a k = bindO (fnDq67 a) k := by
  obtain z := a
  simp only [fnDq67,fnq67,bindO_cond,bindO_assoc,bindO_none,bindO_pure,bindO_elim,bindO_unP,bindO_empty]
def argsq67 : Aq67 → List AV × List AE.Obj := fun o1 => ([.ptr 0 0],[.cells [.own 1],.arr .bool o1])
def decPAq67 (l : List AV) (H : List AE.Obj) : Option {a : Aq67 // (l,H) = argsq67 a} := match l,H with
  | [.ptr 0 0],[.cells [.own 1],.arr .bool o1] => some ⟨(o1),rfl⟩
  | _,_ => none
def decAq67 (l : List AV) (H : List AE.Obj) : Option Aq67 := pk (decPAq67 l H)
theorem decAq67_ok (l : List AV) (H : List AE.Obj) (a : Aq67) (h : decAq67 l H = some a) : (l,H) = argsq67 a := pk_ok (o := decPAq67 l H) h
def outq67 : Aq67 → (AV → List AE.Obj → Ans) → Yq67 → Ans := fun o1 K => unP fun r_0_y r_1_y => K (.tup [.str r_0_y,.int .i64 r_1_y]) [.cells [.own 1],.arr .bool o1]
theorem fnq67_ok (a : Aq67) (K : AV → List AE.Obj → Ans) : fnE Tryz.tab envq67 noHint 0 70 55 Tryz.f55.ntmps Tryz.f55.results.toList annq67 bq67 (argsq67 a).1 (argsq67 a).2 K = fnq67 a (outq67 a K) := by kernel_rfl
def vFq67 (a : Aq67) (K : AV → List AE.Obj → Ans) : Ans := bindO (fnDq67 a) fun y => outq67 a K y
def Fq67 : List AV → List AE.Obj → (AV → List AE.Obj → Ans) → Ans := fun l H K => bindO (decAq67 l H) fun a => vFq67 a K
theorem Fq67_ok : FuncOk Tryz.prog 55 Fq67 := func_mkD (hint := noHint) (d := 0) (n := 70) mixed tabOk envq67Ok Tryz.func55 (bodySome (by kernel_rfl)) (by decide +kernel) annq67_ok decAq67_ok fnq67_ok fnq67_nat
--@ journal_Put_2
noncomputable def envq23 : Env := []
theorem envq23Ok : EnvOk Tryz.prog envq23 := EnvOk.nil
noncomputable def bq23 : Code := Tryz.f54.body.getD .skip
noncomputable def Lq23_n0 : Code := codeAt [1,0,0] bq23
noncomputable def annLq23_n0 : Ann := .none
theorem annLq23_n0_ok : AnnOk Tryz.prog 23 Lq23_n0 annLq23_n0 := (annOk_none _ _ _)
abbrev Iq23_n0 := Unit
abbrev Yq23_n0 := Unit
def Sq23_n0 : Iq23_n0 → St := fun _ => { env := [(0,.nilp)],stk := [[]],H := [],blk := 221184 }
def decPq23_n0 (s : St) : Option {x : Iq23_n0 // s = Sq23_n0 x} := match s with
  | { env := [(0,.nilp)],stk := [[]],H := [],blk := 221184 } => some ⟨(),rfl⟩
  | _ => none
def decq23_n0 (s : St) : Option Iq23_n0 := pk (decPq23_n0 s)
theorem decq23_n0_ok (s : St) (x : Iq23_n0) (h : decq23_n0 s = some x) : s = Sq23_n0 x := pk_ok (o := decPq23_n0 s) h
def outq23_n0 : Iq23_n0 → (Ex → St → Ans) → Yq23_n0 → Ans := fun _ K => fun _ => K (Ex.norm) { env := [(0,.nilp),(11,.bool (true))],stk := [[]],H := [],blk := 221184 }
def nodeq23_n0 {β : Type} : Iq23_n0 → (Yq23_n0 → Option β) → Option β := fun _ exit => (exit ())
def nodeDq23_n0 (i : Iq23_n0) : Option Yq23_n0 := nodeq23_n0 i some
theorem nodeq23_n0_nat (i : Iq23_n0) (k : Yq23_n0 → Ans) : nodeq23_n0 i k = bindO (nodeDq23_n0 i) k := by
  obtain z := i
  simp only [nodeDq23_n0,nodeq23_n0,bindO_cond,bindO_assoc,bindO_none,bindO_pure,bindO_elim,bindO_unP,bindO_empty]
theorem nodeq23_n0_ok (i : Iq23_n0) (K : Ex → St → Ans) : codeI Tryz.tab envq23 noHint (codeD Tryz.tab envq23 noHint 0 64) 70 23 annLq23_n0 Lq23_n0 (weakP 0 (exk [0,11] [2,3] []) K) (Sq23_n0 i) = nodeq23_n0 i (outq23_n0 i K) := by kernel_rfl
theorem GNq23_n0_ok : CSum Tryz.prog 23 Lq23_n0 (sumN decq23_n0 nodeDq23_n0 outq23_n0) := csum_node mixed tabOk envq23Ok 0 (exk [0,11] [2,3] []) annLq23_n0_ok decq23_n0_ok nodeq23_n0_ok nodeq23_n0_nat
noncomputable def Gq23_n0 : (Ex → St → Ans) → St → Ans := (sumN decq23_n0 nodeDq23_n0 outq23_n0)
theorem Gq23_n0_ok : CSum Tryz.prog 23 Lq23_n0 Gq23_n0 := GNq23_n0_ok
noncomputable def annq23 : Ann := (.seq .none (.seq (.seq (.cut 0 [0] Gq23_n0) .none) .none))
theorem annq23_ok : AnnOk Tryz.prog 23 bq23 annq23 := ⟨(annOk_none _ _ _),⟨⟨Gq23_n0_ok,(annOk_none _ _ _)⟩,(annOk_none _ _ _)⟩⟩
abbrev Aq23 := Unit
abbrev Yq23 := Unit
def fnq23 {β : Type} : Aq23 → (Yq23 → Option β) → Option β := fun _ exit => (bindO (nodeDq23_n0 ()) fun _ => (exit ()))
def fnDq23 (a : Aq23) : Option Yq23 := fnq23 a some
theorem fnq23_nat (a : Aq23) (k : Yq23 → Ans) : fnq23 a k = bindO (fnDq23 a) k := by
  obtain z := a
  simp only [fnDq23,fnq23,bindO_cond,bindO_assoc,bindO_none,bindO_pure,bindO_elim,bindO_unP,bindO_empty]
def argsq23 : Aq23 → List AV × List AE.Obj := fun _ => ([.nilp],[])
def decPAq23 (l : List AV) (H : List AE.Obj) : Option {a : Aq23 // (l,H) = argsq23 a} := match l,H with
  | [.nilp],[] => some ⟨(),rfl⟩
  | _,_ => none
def decAq23 (l : List AV) (H : List AE.Obj) : Option Aq23 := pk (decPAq23 l H)
theorem decAq23_ok (l : List AV) (H : List AE.Obj) (a : Aq23) (h : decAq23 l H = some a) : (l,H) = argsq23 a := pk_ok (o := decPAq23 l H) h
def outq23 : Aq23 → (AV → List AE.Obj → Ans) → Yq23 → Ans := fun _ K => fun _ => K (.tup [.str ([]),.int .i64 (3)]) []
theorem fnq23_ok (a : Aq23) (K : AV → List AE.Obj → Ans) : fnE Tryz.tab envq23 noHint 0 70 54 Tryz.f54.ntmps Tryz.f54.results.toList annq23 bq23 (argsq23 a).1 (argsq23 a).2 K = fnq23 a (outq23 a K) := by kernel_rfl
def vFq23 (a : Aq23) (K : AV → List AE.Obj → Ans) : Ans := bindO (fnDq23 a) fun y => outq23 a K y
def Fq23 : List AV → List AE.Obj → (AV → List AE.Obj → Ans) → Ans := fun l H K => bindO (decAq23 l H) fun a => vFq23 a K
theorem Fq23_ok : FuncOk Tryz.prog 54 Fq23 := func_mkD (hint := noHint) (d := 0) (n := 70) mixed tabOk envq23Ok Tryz.func54 (bodySome (by kernel_rfl)) (by decide +kernel) annq23_ok decAq23_ok fnq23_ok fnq23_nat
--@ field_New
noncomputable def envq15 : Env := []
theorem envq15Ok : EnvOk Tryz.prog envq15 := EnvOk.nil
noncomputable def bq15 : Code := Tryz.f129.body.getD .skip
noncomputable def annq15 : Ann := .none
theorem annq15_ok : AnnOk Tryz.prog 6 bq15 annq15 := (annOk_none _ _ _)
abbrev Aq15 := (List UInt8)
abbrev Yq15 := Unit
def fnq15 {β : Type} : Aq15 → (Yq15 → Option β) → Option β := fun a0 exit => (exit ())
def fnDq15 (a : Aq15) : Option Yq15 := fnq15 a some
theorem fnq15_nat (a : Aq15) (k : Yq15 → Ans) : fnq15 a k = bindO (fnDq15 a) k := by
  obtain z := a
  simp only [fnDq15,fnq15,bindO_cond,bindO_assoc,bindO_none,bindO_pure,bindO_elim,bindO_unP,bindO_empty]
def argsq15 : Aq15 → List AV × List AE.Obj := fun a0 => ([.str a0],[])
def decPAq15 (l : List AV) (H : List AE.Obj) : Option {a : Aq15 // (l,H) = argsq15 a} := match l,H with
  | [.str a0],[] => some ⟨(a0),rfl⟩
  | _,_ => none
def decAq15 (l : List AV) (H : List AE.Obj) : Option Aq15 := pk (decPAq15 l H)
theorem decAq15_ok (l : List AV) (H : List AE.Obj) (a : Aq15) (h : decAq15 l H = some a) : (l,H) = argsq15 a := pk_ok (o := decPAq15 l H) h
def outq15 : Aq15 → (AV → List AE.Obj → Ans) → Yq15 → Ans := fun a0 K => fun _ => K (.ptr 0 0) [.cells [.str a0,.int .i64 (0)]]
theorem fnq15_ok (a : Aq15) (K : AV → List AE.Obj → Ans) : fnE Tryz.tab envq15 noHint 0 70 129 Tryz.f129.ntmps Tryz.f129.results.toList annq15 bq15 (argsq15 a).1 (argsq15 a).2 K = fnq15 a (outq15 a K) := by kernel_rfl
def vFq15 (a : Aq15) (K : AV → List AE.Obj → Ans) : Ans := bindO (fnDq15 a) fun y => outq15 a K y
def Fq15 : List AV → List AE.Obj → (AV → List AE.Obj → Ans) → Ans := fun l H K => bindO (decAq15 l H) fun a => vFq15 a K
theorem Fq15_ok : FuncOk Tryz.prog 129 Fq15 := func_mkD (hint := noHint) (d := 0) (n := 70) mixed tabOk envq15Ok Tryz.func129 (bodySome (by kernel_rfl)) (by decide +kernel) annq15_ok decAq15_ok fnq15_ok fnq15_nat
--@ field_Reader_fail
noncomputable def envq19 : Env := []
theorem envq19Ok : EnvOk Tryz.prog envq19 := EnvOk.nil
noncomputable def bq19 : Code := Tryz.f188.body.getD .skip
noncomputable def annq19 : Ann := .none
theorem annq19_ok : AnnOk Tryz.prog 13 bq19 annq19 := (annOk_none _ _ _)
abbrev Aq19 := (Int) × (List UInt8) × (Int)
abbrev Yq19 := (Int)
def fnq19 {β : Type} : Aq19 → (Yq19 → Option β) → Option β := fun (a1,o0_0,o0_1) exit => (bif o0_1 == (0 : Int) then (exit (a1)) else (exit (o0_1)))
def fnDq19 (a : Aq19) : Option Yq19 := fnq19 a some
theorem fnq19_nat (a : Aq19) (k : Yq19 → Ans) : fnq19 a k = bindO (fnDq19 a) k := by
  obtain ⟨a1,o0_0,o0_1⟩ := a
  simp only [fnDq19,fnq19,bindO_cond,bindO_assoc,bindO_none,bindO_pure,bindO_elim,bindO_unP,bindO_empty]
def argsq19 : Aq19 → List AV × List AE.Obj := fun (a1,o0_0,o0_1) => ([.ptr 0 0,.int .i64 a1],[.cells [.str o0_0,.int .i64 o0_1]])
def decPAq19 (l : List AV) (H : List AE.Obj) : Option {a : Aq19 // (l,H) = argsq19 a} := match l,H with
  | [.ptr 0 0,.int .i64 a1],[.cells [.str o0_0,.int .i64 o0_1]] => some ⟨(a1,o0_0,o0_1),rfl⟩
  | _,_ => none
def decAq19 (l : List AV) (H : List AE.Obj) : Option Aq19 := pk (decPAq19 l H)
theorem decAq19_ok (l : List AV) (H : List AE.Obj) (a : Aq19) (h : decAq19 l H = some a) : (l,H) = argsq19 a := pk_ok (o := decPAq19 l H) h
def outq19 : Aq19 → (AV → List AE.Obj → Ans) → Yq19 → Ans := fun (a1,o0_0,o0_1) K => fun o0_1_y => K (.tup []) [.cells [.str o0_0,.int .i64 o0_1_y]]
theorem fnq19_ok (a : Aq19) (K : AV → List AE.Obj → Ans) : fnE Tryz.tab envq19 noHint 0 70 188 Tryz.f188.ntmps Tryz.f188.results.toList annq19 bq19 (argsq19 a).1 (argsq19 a).2 K = fnq19 a (outq19 a K) := by kernel_rfl
def vFq19 (a : Aq19) (K : AV → List AE.Obj → Ans) : Ans := bindO (fnDq19 a) fun y => outq19 a K y
def Fq19 : List AV → List AE.Obj → (AV → List AE.Obj → Ans) → Ans := fun l H K => bindO (decAq19 l H) fun a => vFq19 a K
theorem Fq19_ok : FuncOk Tryz.prog 188 Fq19 := func_mkD (hint := noHint) (d := 0) (n := 70) mixed tabOk envq19Ok Tryz.func188 (bodySome (by kernel_rfl)) (by decide +kernel) annq19_ok decAq19_ok fnq19_ok fnq19_nat
--@ field_Reader_Bytes
noncomputable def envq17 : Env := [(188,.func Fq19)]
theorem envq17Ok : EnvOk Tryz.prog envq17 := EnvOk.cons Fq19_ok (EnvOk.nil)
noncomputable def bq17 : Code := Tryz.f130.body.getD .skip
noncomputable def Lq17_n0 : Code := codeAt [1,1,0,1] bq17
noncomputable def annLq17_n0 : Ann := .none
theorem annLq17_n0_ok : AnnOk Tryz.prog 42 Lq17_n0 annLq17_n0 := (annOk_none _ _ _)
abbrev Iq17_n0 := (Int) × (Bool) × (List UInt8) × (Int)
abbrev Yq17_n0 := (Int)
def Sq17_n0 : Iq17_n0 → St := fun (t1,t9,o0_0,o0_1) => { env := [(0,.ptr 0 0),(1,.int .i64 t1),(9,.bool t9)],stk := [[(0,.ptr 0 0)]],H := [.cells [.str o0_0,.int .i64 o0_1]],blk := 532480 }
def decPq17_n0 (s : St) : Option {x : Iq17_n0 // s = Sq17_n0 x} := match s with
  | { env := [(0,.ptr 0 0),(1,.int .i64 t1),(9,.bool t9)],stk := [[(0,.ptr 0 0)]],H := [.cells [.str o0_0,.int .i64 o0_1]],blk := 532480 } => some ⟨(t1,t9,o0_0,o0_1),rfl⟩
  | _ => none
def decq17_n0 (s : St) : Option Iq17_n0 := pk (decPq17_n0 s)
theorem decq17_n0_ok (s : St) (x : Iq17_n0) (h : decq17_n0 s = some x) : s = Sq17_n0 x := pk_ok (o := decPq17_n0 s) h
def outq17_n0 : Iq17_n0 → (Ex → St → Ans) → Yq17_n0 → Ans := fun (t1,t9,o0_0,o0_1) K => fun o0_1_y => K (Ex.norm) { env := [(0,.ptr 0 0),(1,.int .i64 t1)],stk := [[(0,.ptr 0 0)]],H := [.cells [.str o0_0,.int .i64 o0_1_y]],blk := 532480 }
def nodeq17_n0 {β : Type} : Iq17_n0 → (Yq17_n0 → Option β) → Option β := fun (t1,t9,o0_0,o0_1) exit => (bif t9 then (bindO (fnDq19 ((3 : Int),o0_0,o0_1)) fun o0_1_2 => (exit (o0_1_2))) else (bif decide (t1 > (↑(List.length o0_0) : Int)) then (bindO (fnDq19 ((1 : Int),o0_0,o0_1)) fun o0_1_2 => (exit (o0_1_2))) else (exit (o0_1))))
def nodeDq17_n0 (i : Iq17_n0) : Option Yq17_n0 := nodeq17_n0 i some
theorem nodeq17_n0_nat (i : Iq17_n0) (k : Yq17_n0 → Ans) : nodeq17_n0 i k = bindO (nodeDq17_n0 i) k := by
  obtain ⟨t1,t9,o0_0,o0_1⟩ := i
  simp only [nodeDq17_n0,nodeq17_n0,bindO_cond,bindO_assoc,bindO_none,bindO_pure,bindO_elim,bindO_unP,bindO_empty]
theorem nodeq17_n0_ok (i : Iq17_n0) (K : Ex → St → Ans) : codeI Tryz.tab envq17 noHint (codeD Tryz.tab envq17 noHint 0 64) 70 42 annLq17_n0 Lq17_n0 (weakP 1 (exk [0,1] [4] []) K) (Sq17_n0 i) = nodeq17_n0 i (outq17_n0 i K) := by kernel_rfl
theorem GNq17_n0_ok : CSum Tryz.prog 42 Lq17_n0 (sumN decq17_n0 nodeDq17_n0 outq17_n0) := csum_node mixed tabOk envq17Ok 1 (exk [0,1] [4] []) annLq17_n0_ok decq17_n0_ok nodeq17_n0_ok nodeq17_n0_nat
noncomputable def Gq17_n0 : (Ex → St → Ans) → St → Ans := (sumN decq17_n0 nodeDq17_n0 outq17_n0)
theorem Gq17_n0_ok : CSum Tryz.prog 42 Lq17_n0 Gq17_n0 := GNq17_n0_ok
noncomputable def annq17 : Ann := (.seq .none (.seq .none (.seq (.seq .none (.cut 1 [0,1,9] Gq17_n0)) .none)))
theorem annq17_ok : AnnOk Tryz.prog 42 bq17 annq17 := ⟨(annOk_none _ _ _),⟨(annOk_none _ _ _),⟨⟨(annOk_none _ _ _),Gq17_n0_ok⟩,(annOk_none _ _ _)⟩⟩⟩
abbrev Aq17 := (Int) × (List UInt8) × (Int)
abbrev Yq17 := (List UInt8) × (List UInt8) × (Int)
def fnq17 {β : Type} : Aq17 → (Yq17 → Option β) → Option β := fun (a1,o0_0,o0_1) exit => (bindO (nodeDq17_n0 (a1,decide (a1 < (0 : Int)),o0_0,o0_1)) fun o0_1_2 => (bif o0_1_2 != (0 : Int) then (exit ([],o0_0,o0_1_2)) else (bif inR a1 (List.length o0_0 + (1 : Nat)) then (bif inR a1 (List.length o0_0 + (1 : Nat)) then (exit (List.take (Int.toNat a1) o0_0,List.drop (Int.toNat a1) o0_0,o0_1_2)) else none) else none)))
def fnDq17 (a : Aq17) : Option Yq17 := fnq17 a some
theorem fnq17_nat (a : Aq17) (k : Yq17 → Ans) : fnq17 a k = bindO (fnDq17 a) k := by
  obtain ⟨a1,o0_0,o0_1⟩ := a
  simp only [fnDq17,fnq17,bindO_cond,bindO_assoc,bindO_none,bindO_pure,bindO_elim,bindO_unP,bindO_empty]
def argsq17 : Aq17 → List AV × List AE.Obj := fun (a1,o0_0,o0_1) => ([.ptr 0 0,.int .i64 a1],[.cells [.str o0_0,.int .i64 o0_1]])
def decPAq17 (l : List AV) (H : List AE.Obj) : Option {a : Aq17 // (l,H) = argsq17 a} := match l,H with
  | [.ptr 0 0,.int .i64 a1],[.cells [.str o0_0,.int .i64 o0_1]] => some ⟨(a1,o0_0,o0_1),rfl⟩
  | _,_ => none
def decAq17 (l : List AV) (H : List AE.Obj) : Option Aq17 := pk (decPAq17 l H)
theorem decAq17_ok (l : List AV) (H : List AE.Obj) (a : Aq17) (h : decAq17 l H = some a) : (l,H) = argsq17 a := pk_ok (o := decPAq17 l H) h
def outq17 : Aq17 → (AV → List AE.Obj → Ans) → Yq17 → Ans := fun (a1,o0_0,o0_1) K => unP fun r_y => unP fun o0_0_y o0_1_y => K (.str r_y) [.cells [.str o0_0_y,.int .i64 o0_1_y]]
theorem fnq17_ok (a : Aq17) (K : AV → List AE.Obj → Ans) : fnE Tryz.tab envq17 noHint 0 70 130 Tryz.f130.ntmps Tryz.f130.results.toList annq17 bq17 (argsq17 a).1 (argsq17 a).2 K = fnq17 a (outq17 a K) := by kernel_rfl
def vFq17 (a : Aq17) (K : AV → List AE.Obj → Ans) : Ans := bindO (fnDq17 a) fun y => outq17 a K y
def Fq17 : List AV → List AE.Obj → (AV → List AE.Obj → Ans) → Ans := fun l H K => bindO (decAq17 l H) fun a => vFq17 a K
theorem Fq17_ok : FuncOk Tryz.prog 130 Fq17 := func_mkD (hint := noHint) (d := 0) (n := 70) mixed tabOk envq17Ok Tryz.func130 (bodySome (by kernel_rfl)) (by decide +kernel) annq17_ok decAq17_ok fnq17_ok fnq17_nat
--@ field_Reader_Num
noncomputable def envq18 : Env := [(189,.pure Fq20),(188,.func Fq19),(130,.func Fq17)]
theorem envq18Ok : EnvOk Tryz.prog envq18 := EnvOk.cons Fq20_ok (EnvOk.cons Fq19_ok (EnvOk.cons Fq17_ok (EnvOk.nil)))
noncomputable def bq18 : Code := Tryz.f131.body.getD .skip
noncomputable def Lq18_n0 : Code := codeAt [1,1,1,1,0,1,0,0] bq18
noncomputable def annLq18_n0 : Ann := .at 1 [5,18,19,20] (.loop .none)
theorem annLq18_n0_ok : AnnOk Tryz.prog 31 (.loop Lq18_n0) annLq18_n0 := annOk_at (annOk_none _ _ _)
abbrev Iq18_n0 := (Int) × (List UInt8) × (Int) × (List Int)
abbrev Yq18_n0 := (Int)
abbrev Vq18_n0 := (Int) × (Int)
def Sq18_n0 : Iq18_n0 → Vq18_n0 → St := fun (t19,o0_0,o0_1,o1) (t5,t20) => { env := [(5,.int .i64 t5),(18,.own 1),(19,.int .i64 t19),(20,.int .i64 t20)],stk := [[(0,.ptr 0 0)]],H := [.cells [.str o0_0,.int .i64 o0_1],.arr (.int .u8) o1],blk := 536576 }
def decPq18_n0 (s : St) : Option {x : Iq18_n0 × Vq18_n0 // s = Sq18_n0 x.1 x.2} := match s with
  | { env := [(5,.int .i64 t5),(18,.own 1),(19,.int .i64 t19),(20,.int .i64 t20)],stk := [[(0,.ptr 0 0)]],H := [.cells [.str o0_0,.int .i64 o0_1],.arr (.int .u8) o1],blk := 536576 } => some ⟨((t19,o0_0,o0_1,o1),(t5,t20)),rfl⟩
  | _ => none
def decq18_n0 (s : St) : Option (Iq18_n0 × Vq18_n0) := pk (decPq18_n0 s)
theorem decq18_n0_ok (s : St) (x : Iq18_n0 × Vq18_n0) (h : decq18_n0 s = some x) : s = Sq18_n0 x.1 x.2 := pk_ok (o := decPq18_n0 s) h
def outq18_n0 : Iq18_n0 → (Ex → St → Ans) → Yq18_n0 → Ans := fun (t19,o0_0,o0_1,o1) K => fun t5_y => K (Ex.exit 0) { env := [(5,.int .i64 t5_y)],stk := [[(0,.ptr 0 0)]],H := [.cells [.str o0_0,.int .i64 o0_1]],blk := 536576 }
def stepq18_n0 {β : Type} : Iq18_n0 → Vq18_n0 → (Vq18_n0 → Option β) → (Yq18_n0 → Option β) → Option β := fun (t19,o0_0,o0_1,o1) (t5,t20) next exit => (bif decide (t20 < t19) then (bif inR t20 (List.length o1) then (bindO (o1[Int.toNat t20]?) fun x => (next (IntKind.wrap .i64 (↑(Int.toNat (IntKind.wrap .i64 (t5 * (256 : Int)) % (18446744073709551616 : Int)) ||| Int.toNat (IntKind.wrap .i64 x % (18446744073709551616 : Int))) : Int),IntKind.wrap .i64 (t20 + (1 : Int))))) else none) else (exit (t5)))
def stepDq18_n0 (i : Iq18_n0) (v : Vq18_n0) : Option (Vq18_n0 ⊕ Yq18_n0) := stepq18_n0 i v (fun v => some (.inl v)) (fun y => some (.inr y))
theorem stepq18_n0_nat (i : Iq18_n0) (v : Vq18_n0) (next : Vq18_n0 → Ans) (exit : Yq18_n0 → Ans) : stepq18_n0 i v next exit = bindO (stepDq18_n0 i v) (Sum.elim next exit) := by
  obtain ⟨t19,o0_0,o0_1,o1⟩ := i
  obtain ⟨t5,t20⟩ := v
  simp only [stepDq18_n0,stepq18_n0,bindO_cond,bindO_assoc,bindO_none,bindO_pure,bindO_elim,bindO_unP,bindO_empty,Sum.elim_inl,Sum.elim_inr]
theorem stepq18_n0_ok (n : Nat) (i : Iq18_n0) (v : Vq18_n0) (K : Ex → St → Ans) : codeI Tryz.tab envq18 noHint (codeD Tryz.tab envq18 noHint 0 64) (n+1) 31 annLq18_n0 (.loop Lq18_n0) (weakP 1 (exk [5] [4] [(0,[5])]) K) (Sq18_n0 i v) = stepq18_n0 i v (fun v' => codeI Tryz.tab envq18 noHint (codeD Tryz.tab envq18 noHint 0 64) n 31 annLq18_n0 (.loop Lq18_n0) (weakP 1 (exk [5] [4] [(0,[5])]) K) (Sq18_n0 i v')) (fun y => outq18_n0 i K y) := by kernel_rfl
theorem GNq18_n0_ok : CSum Tryz.prog 31 (.loop Lq18_n0) (sumL decq18_n0 stepDq18_n0 outq18_n0) := csum_loop mixed tabOk envq18Ok 1 (exk [5] [4] [(0,[5])]) annLq18_n0_ok decq18_n0_ok stepq18_n0_ok stepq18_n0_nat
noncomputable def Gq18_n0 : (Ex → St → Ans) → St → Ans := (sumL decq18_n0 stepDq18_n0 outq18_n0)
theorem Gq18_n0_ok : CSum Tryz.prog 31 (.loop Lq18_n0) Gq18_n0 := GNq18_n0_ok
noncomputable def annq18 : Ann := (.seq .none (.seq .none (.seq .none (.seq .none (.seq (.seq .none (.block (.cut 1 [5,18,19,20] Gq18_n0))) .none)))))
theorem annq18_ok : AnnOk Tryz.prog 31 bq18 annq18 := ⟨(annOk_none _ _ _),⟨(annOk_none _ _ _),⟨(annOk_none _ _ _),⟨(annOk_none _ _ _),⟨⟨(annOk_none _ _ _),Gq18_n0_ok⟩,(annOk_none _ _ _)⟩⟩⟩⟩⟩
abbrev Aq18 := (Int) × (List UInt8) × (Int)
abbrev Yq18 := (Int) × (List UInt8) × (Int)
def fnq18 {β : Type} : Aq18 → (Yq18 → Option β) → Option β := fun (a1,o0_0,o0_1) exit => (bindO (fnDq20 (a1)) fun r => (bif !r then (bindO (fnDq19 ((3 : Int),o0_0,o0_1)) fun o0_1_2 => (exit ((0 : Int),o0_0,o0_1_2))) else (bindO (fnDq17 (a1,o0_0,o0_1)) (unP fun r_2 => unP fun o0_0_2 o0_1_2 => (bif Nat.ble (List.length r_2) (140737488355328 : Nat) then (bindO (loopD (stepDq18_n0 ((↑(List.length (intsOf r_2)) : Int),o0_0_2,o0_1_2,intsOf r_2)) FUEL ((0 : Int),(0 : Int))) fun t5 => (exit (t5,o0_0_2,o0_1_2))) else none)))))
def fnDq18 (a : Aq18) : Option Yq18 := fnq18 a some
theorem fnq18_nat (a : Aq18) (k : Yq18 → Ans) : fnq18 a k = bindO (fnDq18 a) k := by
  obtain ⟨a1,o0_0,o0_1⟩ := a
  simp only [fnDq18,fnq18,bindO_cond,bindO_assoc,bindO_none,bindO_pure,bindO_elim,bindO_unP,bindO_empty]
def argsq18 : Aq18 → List AV × List AE.Obj := fun (a1,o0_0,o0_1) => ([.ptr 0 0,.int .i64 a1],[.cells [.str o0_0,.int .i64 o0_1]])
def decPAq18 (l : List AV) (H : List AE.Obj) : Option {a : Aq18 // (l,H) = argsq18 a} := match l,H with
  | [.ptr 0 0,.int .i64 a1],[.cells [.str o0_0,.int .i64 o0_1]] => some ⟨(a1,o0_0,o0_1),rfl⟩
  | _,_ => none
def decAq18 (l : List AV) (H : List AE.Obj) : Option Aq18 := pk (decPAq18 l H)
theorem decAq18_ok (l : List AV) (H : List AE.Obj) (a : Aq18) (h : decAq18 l H = some a) : (l,H) = argsq18 a := pk_ok (o := decPAq18 l H) h
def outq18 : Aq18 → (AV → List AE.Obj → Ans) → Yq18 → Ans := fun (a1,o0_0,o0_1) K => unP fun r_y => unP fun o0_0_y o0_1_y => K (.int .i64 r_y) [.cells [.str o0_0_y,.int .i64 o0_1_y]]
theorem fnq18_ok (a : Aq18) (K : AV → List AE.Obj → Ans) : fnE Tryz.tab envq18 noHint 0 70 131 Tryz.f131.ntmps Tryz.f131.results.toList annq18 bq18 (argsq18 a).1 (argsq18 a).2 K = fnq18 a (outq18 a K) := by kernel_rfl
def vFq18 (a : Aq18) (K : AV → List AE.Obj → Ans) : Ans := bindO (fnDq18 a) fun y => outq18 a K y
def Fq18 : List AV → List AE.Obj → (AV → List AE.Obj → Ans) → Ans := fun l H K => bindO (decAq18 l H) fun a => vFq18 a K
theorem Fq18_ok : FuncOk Tryz.prog 131 Fq18 := func_mkD (hint := noHint) (d := 0) (n := 70) mixed tabOk envq18Ok Tryz.func131 (bodySome (by kernel_rfl)) (by decide +kernel) annq18_ok decAq18_ok fnq18_ok fnq18_nat
--@ marks_Read
noncomputable def envq42 : Env := [(50,.func Fq41)]
theorem envq42Ok : EnvOk Tryz.prog envq42 := EnvOk.cons Fq41_ok (EnvOk.nil)
noncomputable def bq42 : Code := Tryz.f135.body.getD .skip
noncomputable def Lq42_n0 : Code := codeAt [1,1,1,1,0,1,0] bq42
noncomputable def annLq42_n0 : Ann := .none
theorem annLq42_n0_ok : AnnOk Tryz.prog 59 Lq42_n0 annLq42_n0 := (annOk_none _ _ _)
abbrev Iq42_n0 := (Int) × (Int) × (List Int)
abbrev Yq42_n0 := (Bool)
def Sq42_n0 : Iq42_n0 → St := fun (t7,o0_0,o1) => { env := [(6,.ptr 0 0),(7,.int .i64 t7)],stk := [[]],H := [.cells [.int .i64 o0_0,.own 1],.arr (.int .u8) o1],blk := 552960 }
def decPq42_n0 (s : St) : Option {x : Iq42_n0 // s = Sq42_n0 x} := match s with
  | { env := [(6,.ptr 0 0),(7,.int .i64 t7)],stk := [[]],H := [.cells [.int .i64 o0_0,.own 1],.arr (.int .u8) o1],blk := 552960 } => some ⟨(t7,o0_0,o1),rfl⟩
  | _ => none
def decq42_n0 (s : St) : Option Iq42_n0 := pk (decPq42_n0 s)
theorem decq42_n0_ok (s : St) (x : Iq42_n0) (h : decq42_n0 s = some x) : s = Sq42_n0 x := pk_ok (o := decPq42_n0 s) h
def outq42_n0 : Iq42_n0 → (Ex → St → Ans) → Yq42_n0 → Ans := fun (t7,o0_0,o1) K => fun t57_y => K (Ex.norm) { env := [(6,.ptr 0 0),(57,.bool t57_y)],stk := [[]],H := [.cells [.int .i64 o0_0,.own 1],.arr (.int .u8) o1],blk := 552960 }
def nodeq42_n0 {β : Type} : Iq42_n0 → (Yq42_n0 → Option β) → Option β := fun (t7,o0_0,o1) exit => (bif decide (t7 > (0 : Int)) then (bif inR (IntKind.wrap .i64 ((↑(List.length o1) : Int) - (1 : Int))) (List.length o1) then (bindO (o1[Int.toNat (IntKind.wrap .i64 ((↑(List.length o1) : Int) - (1 : Int)))]?) fun x => (bif decide (t7 < (0 : Int)) then none else (exit (Int.fdiv x ((2 : Int) ^ min (Int.toNat t7) (8 : Nat)) != (0 : Int))))) else none) else (exit (false)))
def nodeDq42_n0 (i : Iq42_n0) : Option Yq42_n0 := nodeq42_n0 i some
theorem nodeq42_n0_nat (i : Iq42_n0) (k : Yq42_n0 → Ans) : nodeq42_n0 i k = bindO (nodeDq42_n0 i) k := by
  obtain ⟨t7,o0_0,o1⟩ := i
  simp only [nodeDq42_n0,nodeq42_n0,bindO_cond,bindO_assoc,bindO_none,bindO_pure,bindO_elim,bindO_unP,bindO_empty]
theorem nodeq42_n0_ok (i : Iq42_n0) (K : Ex → St → Ans) : codeI Tryz.tab envq42 noHint (codeD Tryz.tab envq42 noHint 0 64) 70 59 annLq42_n0 Lq42_n0 (weakP 0 (exk [6,57] [4,5] []) K) (Sq42_n0 i) = nodeq42_n0 i (outq42_n0 i K) := by kernel_rfl
theorem GNq42_n0_ok : CSum Tryz.prog 59 Lq42_n0 (sumN decq42_n0 nodeDq42_n0 outq42_n0) := csum_node mixed tabOk envq42Ok 0 (exk [6,57] [4,5] []) annLq42_n0_ok decq42_n0_ok nodeq42_n0_ok nodeq42_n0_nat
noncomputable def Gq42_n0 : (Ex → St → Ans) → St → Ans := (sumN decq42_n0 nodeDq42_n0 outq42_n0)
theorem Gq42_n0_ok : CSum Tryz.prog 59 Lq42_n0 Gq42_n0 := GNq42_n0_ok
noncomputable def annq42 : Ann := (.seq .none (.seq .none (.seq .none (.seq .none (.seq (.seq .none (.seq (.cut 0 [6,7] Gq42_n0) .none)) .none)))))
theorem annq42_ok : AnnOk Tryz.prog 59 bq42 annq42 := ⟨(annOk_none _ _ _),⟨(annOk_none _ _ _),⟨(annOk_none _ _ _),⟨(annOk_none _ _ _),⟨⟨(annOk_none _ _ _),⟨Gq42_n0_ok,(annOk_none _ _ _)⟩⟩,(annOk_none _ _ _)⟩⟩⟩⟩⟩
abbrev Aq42 := (Int) × (List UInt8)
abbrev Yq42 := ((Int)) ⊕ ((Int) × (List Int))
def fnq42 {β : Type} : Aq42 → (Yq42 → Option β) → Option β := fun (a0,a1) exit => (bindO (fnDq41 (a0)) (unP fun o0_0 o1 => (bif decide ((↑(List.length a1) : Int) < (↑(List.length o1) : Int)) then (exit (Sum.inl ((1 : Int)))) else (bif decide ((↑(List.length a1) : Int) > (↑(List.length o1) : Int)) then (exit (Sum.inl ((2 : Int)))) else (bindO (nodeDq42_n0 (Int.tmod o0_0 (8 : Int),o0_0,List.take (List.length o1) (intsOf a1) ++ List.drop (List.length (intsOf a1)) o1)) fun t57 => (bif t57 then (exit (Sum.inl ((4 : Int)))) else (exit (Sum.inr (o0_0,List.take (List.length o1) (intsOf a1) ++ List.drop (List.length (intsOf a1)) o1)))))))))
def fnDq42 (a : Aq42) : Option Yq42 := fnq42 a some
theorem fnq42_nat (a : Aq42) (k : Yq42 → Ans) : fnq42 a k = bindO (fnDq42 a) k := by
  obtain ⟨a0,a1⟩ := a
  simp only [fnDq42,fnq42,bindO_cond,bindO_assoc,bindO_none,bindO_pure,bindO_elim,bindO_unP,bindO_empty]
def argsq42 : Aq42 → List AV × List AE.Obj := fun (a0,a1) => ([.int .i64 a0,.str a1],[])
def decPAq42 (l : List AV) (H : List AE.Obj) : Option {a : Aq42 // (l,H) = argsq42 a} := match l,H with
  | [.int .i64 a0,.str a1],[] => some ⟨(a0,a1),rfl⟩
  | _,_ => none
def decAq42 (l : List AV) (H : List AE.Obj) : Option Aq42 := pk (decPAq42 l H)
theorem decAq42_ok (l : List AV) (H : List AE.Obj) (a : Aq42) (h : decAq42 l H = some a) : (l,H) = argsq42 a := pk_ok (o := decPAq42 l H) h
def outq42 : Aq42 → (AV → List AE.Obj → Ans) → Yq42 → Ans := fun (a0,a1) K => (Sum.elim (fun r_1_y => K (.tup [.nilp,.int .i64 r_1_y]) []) (unP fun o0_0_y o1_y => K (.tup [.ptr 0 0,.int .i64 (0)]) [.cells [.int .i64 o0_0_y,.own 1],.arr (.int .u8) o1_y]))
theorem fnq42_ok (a : Aq42) (K : AV → List AE.Obj → Ans) : fnE Tryz.tab envq42 noHint 0 70 135 Tryz.f135.ntmps Tryz.f135.results.toList annq42 bq42 (argsq42 a).1 (argsq42 a).2 K = fnq42 a (outq42 a K) := by kernel_rfl
def vFq42 (a : Aq42) (K : AV → List AE.Obj → Ans) : Ans := bindO (fnDq42 a) fun y => outq42 a K y
def Fq42 : List AV → List AE.Obj → (AV → List AE.Obj → Ans) → Ans := fun l H K => bindO (decAq42 l H) fun a => vFq42 a K
theorem Fq42_ok : FuncOk Tryz.prog 135 Fq42 := func_mkD (hint := noHint) (d := 0) (n := 70) mixed tabOk envq42Ok Tryz.func135 (bodySome (by kernel_rfl)) (by decide +kernel) annq42_ok decAq42_ok fnq42_ok fnq42_nat
--@ journal_Get
noncomputable def envq21 : Env := [(50,.func Fq41),(58,.func Fq44),(123,.pure Fq4),(54,.func (altF decAq22 vFq22 Fq23)),(129,.func Fq15),(130,.func Fq17),(131,.func Fq18),(135,.func Fq42)]
theorem envq21Ok : EnvOk Tryz.prog envq21 := EnvOk.cons Fq41_ok (EnvOk.cons Fq44_ok (EnvOk.cons Fq4_ok (EnvOk.cons (func_altF Fq22_ok Fq23_ok) (EnvOk.cons Fq15_ok (EnvOk.cons Fq17_ok (EnvOk.cons Fq18_ok (EnvOk.cons Fq42_ok (EnvOk.nil))))))))
noncomputable def bq21 : Code := Tryz.f56.body.getD .skip
noncomputable def Lq21_n1 : Code := codeAt [1,1,1,1,1,1,1,1,0,1,0] bq21
noncomputable def annLq21_n1 : Ann := .none
theorem annLq21_n1_ok : AnnOk Tryz.prog 74 Lq21_n1 annLq21_n1 := (annOk_none _ _ _)
abbrev Iq21_n1 := (List UInt8)
abbrev Yq21_n1 := Unit
def Sq21_n1 : Iq21_n1 → St := fun t1 => { env := [(1,.str t1),(11,.nilp),(13,.str ([])),(14,.int .i64 (3))],stk := [[]],H := [],blk := 229376 }
def decPq21_n1 (s : St) : Option {x : Iq21_n1 // s = Sq21_n1 x} := match s with
  | { env := [(1,.str t1),(11,.nilp),(13,.str r1),(14,.int .i64 r2)],stk := [[]],H := [],blk := 229376 } => if h1 : r1 = [] then if h2 : r2 = 3 then some ⟨(t1),by subst h1 h2; rfl⟩ else none else none
  | _ => none
def decq21_n1 (s : St) : Option Iq21_n1 := pk (decPq21_n1 s)
theorem decq21_n1_ok (s : St) (x : Iq21_n1) (h : decq21_n1 s = some x) : s = Sq21_n1 x := pk_ok (o := decPq21_n1 s) h
def outq21_n1 : Iq21_n1 → (Ex → St → Ans) → Yq21_n1 → Ans := fun t1 K => fun _ => K (Ex.norm) { env := [(11,.nilp),(72,.bool (true))],stk := [[]],H := [],blk := 229376 }
def nodeq21_n1 {β : Type} : Iq21_n1 → (Yq21_n1 → Option β) → Option β := fun t1 exit => (exit ())
def nodeDq21_n1 (i : Iq21_n1) : Option Yq21_n1 := nodeq21_n1 i some
theorem nodeq21_n1_nat (i : Iq21_n1) (k : Yq21_n1 → Ans) : nodeq21_n1 i k = bindO (nodeDq21_n1 i) k := by
  obtain z := i
  simp only [nodeDq21_n1,nodeq21_n1,bindO_cond,bindO_assoc,bindO_none,bindO_pure,bindO_elim,bindO_unP,bindO_empty]
theorem nodeq21_n1_ok (i : Iq21_n1) (K : Ex → St → Ans) : codeI Tryz.tab envq21 noHint (codeD Tryz.tab envq21 noHint 0 64) 70 74 annLq21_n1 Lq21_n1 (weakP 0 (exk [11,72] [4,5] []) K) (Sq21_n1 i) = nodeq21_n1 i (outq21_n1 i K) := by kernel_rfl
theorem GNq21_n1_ok : CSum Tryz.prog 74 Lq21_n1 (sumN decq21_n1 nodeDq21_n1 outq21_n1) := csum_node mixed tabOk envq21Ok 0 (exk [11,72] [4,5] []) annLq21_n1_ok decq21_n1_ok nodeq21_n1_ok nodeq21_n1_nat
abbrev Iq21_n1v1 := (List UInt8) × (List UInt8) × (Int) × (Int) × (List Int)
abbrev Yq21_n1v1 := (Bool)
def Sq21_n1v1 : Iq21_n1v1 → St := fun (t1,t13,t14,o0_0,o1) => { env := [(1,.str t1),(11,.ptr 0 0),(13,.str t13),(14,.int .i64 t14)],stk := [[]],H := [.cells [.int .i64 o0_0,.own 1],.arr (.int .u8) o1],blk := 229376 }
def decPq21_n1v1 (s : St) : Option {x : Iq21_n1v1 // s = Sq21_n1v1 x} := match s with
  | { env := [(1,.str t1),(11,.ptr 0 0),(13,.str t13),(14,.int .i64 t14)],stk := [[]],H := [.cells [.int .i64 o0_0,.own 1],.arr (.int .u8) o1],blk := 229376 } => some ⟨(t1,t13,t14,o0_0,o1),rfl⟩
  | _ => none
def decq21_n1v1 (s : St) : Option Iq21_n1v1 := pk (decPq21_n1v1 s)
theorem decq21_n1v1_ok (s : St) (x : Iq21_n1v1) (h : decq21_n1v1 s = some x) : s = Sq21_n1v1 x := pk_ok (o := decPq21_n1v1 s) h
def outq21_n1v1 : Iq21_n1v1 → (Ex → St → Ans) → Yq21_n1v1 → Ans := fun (t1,t13,t14,o0_0,o1) K => fun t72_y => K (Ex.norm) { env := [(11,.ptr 0 0),(72,.bool t72_y)],stk := [[]],H := [.cells [.int .i64 o0_0,.own 1],.arr (.int .u8) o1],blk := 229376 }
def nodeq21_n1v1 {β : Type} : Iq21_n1v1 → (Yq21_n1v1 → Option β) → Option β := fun (t1,t13,t14,o0_0,o1) exit => (bif t14 != (0 : Int) then (exit (true)) else (exit (!t13 == t1)))
def nodeDq21_n1v1 (i : Iq21_n1v1) : Option Yq21_n1v1 := nodeq21_n1v1 i some
theorem nodeq21_n1v1_nat (i : Iq21_n1v1) (k : Yq21_n1v1 → Ans) : nodeq21_n1v1 i k = bindO (nodeDq21_n1v1 i) k := by
  obtain ⟨t1,t13,t14,o0_0,o1⟩ := i
  simp only [nodeDq21_n1v1,nodeq21_n1v1,bindO_cond,bindO_assoc,bindO_none,bindO_pure,bindO_elim,bindO_unP,bindO_empty]
theorem nodeq21_n1v1_ok (i : Iq21_n1v1) (K : Ex → St → Ans) : codeI Tryz.tab envq21 noHint (codeD Tryz.tab envq21 noHint 0 64) 70 74 annLq21_n1 Lq21_n1 (weakP 0 (exk [11,72] [4,5] []) K) (Sq21_n1v1 i) = nodeq21_n1v1 i (outq21_n1v1 i K) := by kernel_rfl
theorem GNq21_n1v1_ok : CSum Tryz.prog 74 Lq21_n1 (sumN decq21_n1v1 nodeDq21_n1v1 outq21_n1v1) := csum_node mixed tabOk envq21Ok 0 (exk [11,72] [4,5] []) annLq21_n1_ok decq21_n1v1_ok nodeq21_n1v1_ok nodeq21_n1v1_nat
noncomputable def Gq21_n1 : (Ex → St → Ans) → St → Ans := (altN decq21_n1 (sumN decq21_n1 nodeDq21_n1 outq21_n1) (sumN decq21_n1v1 nodeDq21_n1v1 outq21_n1v1))
theorem Gq21_n1_ok : CSum Tryz.prog 74 Lq21_n1 Gq21_n1 := (csum_altN GNq21_n1_ok GNq21_n1v1_ok)
noncomputable def Lq21_n0 : Code := codeAt [1,1,1,0,1,0] bq21
noncomputable def annLq21_n0 : Ann := .none
theorem annLq21_n0_ok : AnnOk Tryz.prog 74 Lq21_n0 annLq21_n0 := (annOk_none _ _ _)
abbrev Iq21_n0 := (Int) × (List UInt8) × (List UInt8) × (Int) × (List UInt8) × (Int)
abbrev Yq21_n0 := (Bool)
def Sq21_n0 : Iq21_n0 → St := fun (t0,t1,t7,t8,o0_0,o0_1) => { env := [(0,.int .i64 t0),(1,.str t1),(6,.ptr 0 0),(7,.str t7),(8,.int .i64 t8)],stk := [[]],H := [.cells [.str o0_0,.int .i64 o0_1]],blk := 229376 }
def decPq21_n0 (s : St) : Option {x : Iq21_n0 // s = Sq21_n0 x} := match s with
  | { env := [(0,.int .i64 t0),(1,.str t1),(6,.ptr 0 0),(7,.str t7),(8,.int .i64 t8)],stk := [[]],H := [.cells [.str o0_0,.int .i64 o0_1]],blk := 229376 } => some ⟨(t0,t1,t7,t8,o0_0,o0_1),rfl⟩
  | _ => none
def decq21_n0 (s : St) : Option Iq21_n0 := pk (decPq21_n0 s)
theorem decq21_n0_ok (s : St) (x : Iq21_n0) (h : decq21_n0 s = some x) : s = Sq21_n0 x := pk_ok (o := decPq21_n0 s) h
def outq21_n0 : Iq21_n0 → (Ex → St → Ans) → Yq21_n0 → Ans := fun (t0,t1,t7,t8,o0_0,o0_1) K => fun t34_y => K (Ex.norm) { env := [(0,.int .i64 t0),(1,.str t1),(6,.ptr 0 0),(34,.bool t34_y)],stk := [[]],H := [.cells [.str o0_0,.int .i64 o0_1]],blk := 229376 }
def nodeq21_n0 {β : Type} : Iq21_n0 → (Yq21_n0 → Option β) → Option β := fun (t0,t1,t7,t8,o0_0,o0_1) exit => (bif !t7 == [(74 : UInt8)] then (exit (true)) else (bif t8 != t0 then (exit (true)) else (exit (decide (t0 > (24 : Int))))))
def nodeDq21_n0 (i : Iq21_n0) : Option Yq21_n0 := nodeq21_n0 i some
theorem nodeq21_n0_nat (i : Iq21_n0) (k : Yq21_n0 → Ans) : nodeq21_n0 i k = bindO (nodeDq21_n0 i) k := by
  obtain ⟨t0,t1,t7,t8,o0_0,o0_1⟩ := i
  simp only [nodeDq21_n0,nodeq21_n0,bindO_cond,bindO_assoc,bindO_none,bindO_pure,bindO_elim,bindO_unP,bindO_empty]
theorem nodeq21_n0_ok (i : Iq21_n0) (K : Ex → St → Ans) : codeI Tryz.tab envq21 noHint (codeD Tryz.tab envq21 noHint 0 64) 70 74 annLq21_n0 Lq21_n0 (weakP 0 (exk [0,1,6,34] [4,5] []) K) (Sq21_n0 i) = nodeq21_n0 i (outq21_n0 i K) := by kernel_rfl
theorem GNq21_n0_ok : CSum Tryz.prog 74 Lq21_n0 (sumN decq21_n0 nodeDq21_n0 outq21_n0) := csum_node mixed tabOk envq21Ok 0 (exk [0,1,6,34] [4,5] []) annLq21_n0_ok decq21_n0_ok nodeq21_n0_ok nodeq21_n0_nat
noncomputable def Gq21_n0 : (Ex → St → Ans) → St → Ans := (sumN decq21_n0 nodeDq21_n0 outq21_n0)
theorem Gq21_n0_ok : CSum Tryz.prog 74 Lq21_n0 Gq21_n0 := GNq21_n0_ok
noncomputable def annq21 : Ann := (.seq .none (.seq .none (.seq .none (.seq (.seq .none (.seq (.cut 0 [0,1,6,7,8] Gq21_n0) .none)) (.seq .none (.seq .none (.seq .none (.seq .none (.seq (.seq .none (.seq (.cut 0 [1,11,13,14] Gq21_n1) .none)) .none)))))))))
theorem annq21_ok : AnnOk Tryz.prog 74 bq21 annq21 := ⟨(annOk_none _ _ _),⟨(annOk_none _ _ _),⟨(annOk_none _ _ _),⟨⟨(annOk_none _ _ _),⟨Gq21_n0_ok,(annOk_none _ _ _)⟩⟩,⟨(annOk_none _ _ _),⟨(annOk_none _ _ _),⟨(annOk_none _ _ _),⟨(annOk_none _ _ _),⟨⟨(annOk_none _ _ _),⟨Gq21_n1_ok,(annOk_none _ _ _)⟩⟩,(annOk_none _ _ _)⟩⟩⟩⟩⟩⟩⟩⟩⟩
abbrev Aq21 := (Int) × (List UInt8)
abbrev Yq21 := ((Int)) ⊕ ((Int) × (List Int))
def fnq21 {β : Type} : Aq21 → (Yq21 → Option β) → Option β := fun (a0,a1) exit => (bif (↑(List.length a1) : Int) != (64 : Int) then (exit (Sum.inl ((12 : Int)))) else (bindO (fnDq15 (a1)) fun _ => (bindO (fnDq17 ((1 : Int),a1,(0 : Int))) (unP fun r => unP fun o0_0 o0_1 => (bindO (fnDq18 ((1 : Int),o0_0,o0_1)) (unP fun r_2 => unP fun o0_0_2 o0_1_2 => (bindO (nodeDq21_n0 (a0,a1,r,r_2,o0_0_2,o0_1_2)) fun t34 => (bif t34 then (exit (Sum.inl ((4 : Int)))) else (bindO (fnDq41 (a0)) (unP fun o0_0_3 o1 => (bindO (fnDq44 (o0_0_3,o1)) fun r_3 => (bindO (fnDq17 ((↑(List.length r_3) : Int),o0_0_2,o0_1_2)) (unP fun r_4 => unP fun o0_0_4 o0_1_3 => (bif inR (IntKind.wrap .i64 ((2 : Int) + (↑(List.length r_4) : Int))) (List.length a1 + (1 : Nat)) then (bindO (fnDq4 (List.take (Int.toNat (IntKind.wrap .i64 ((2 : Int) + (↑(List.length r_4) : Int)))) a1)) fun r_5 => (bindO (fnDq17 ((↑(List.length r_5) : Int),o0_0_4,o0_1_3)) (unP fun r_6 => unP fun o0_0_5 o0_1_4 => (bif !r_6 == r_5 then (exit (Sum.inl ((5 : Int)))) else (bindO (fnDq42 (a0,r_4)) (Sum.elim (fun r_1 => (bif r_1 != (0 : Int) then (exit (Sum.inl ((4 : Int)))) else (bindO (fnDq23 ()) fun _ => (bindO (nodeDq21_n1 (a1)) fun _ => (exit (Sum.inl ((4 : Int)))))))) (unP fun o0_0_6 o1_2 => (bindO (fnDq22 (o0_0_6,o1_2)) (unP fun r_0 r_1 => (bindO (nodeDq21_n1v1 (a1,r_0,r_1,o0_0_6,o1_2)) fun t72 => (bif t72 then (exit (Sum.inl ((4 : Int)))) else (exit (Sum.inr (o0_0_6,o1_2)))))))))))))) else none))))))))))))))
def fnDq21 (a : Aq21) : Option Yq21 := fnq21 a some
theorem fnq21_nat (a : Aq21) (k : Yq21 → Ans) : fnq21 a k = bindO (fnDq21 a) k := by
  obtain ⟨a0,a1⟩ := a
  simp only [fnDq21,fnq21,bindO_cond,bindO_assoc,bindO_none,bindO_pure,bindO_elim,bindO_unP,bindO_empty]
def argsq21 : Aq21 → List AV × List AE.Obj := fun (a0,a1) => ([.int .i64 a0,.str a1],[])
def decPAq21 (l : List AV) (H : List AE.Obj) : Option {a : Aq21 // (l,H) = argsq21 a} := match l,H with
  | [.int .i64 a0,.str a1],[] => some ⟨(a0,a1),rfl⟩
  | _,_ => none
def decAq21 (l : List AV) (H : List AE.Obj) : Option Aq21 := pk (decPAq21 l H)
theorem decAq21_ok (l : List AV) (H : List AE.Obj) (a : Aq21) (h : decAq21 l H = some a) : (l,H) = argsq21 a := pk_ok (o := decPAq21 l H) h
def outq21 : Aq21 → (AV → List AE.Obj → Ans) → Yq21 → Ans := fun (a0,a1) K => (Sum.elim (fun r_1_y => K (.tup [.nilp,.int .i64 r_1_y]) []) (unP fun o0_0_y o1_y => K (.tup [.ptr 0 0,.int .i64 (0)]) [.cells [.int .i64 o0_0_y,.own 1],.arr (.int .u8) o1_y]))
theorem fnq21_ok (a : Aq21) (K : AV → List AE.Obj → Ans) : fnE Tryz.tab envq21 noHint 0 70 56 Tryz.f56.ntmps Tryz.f56.results.toList annq21 bq21 (argsq21 a).1 (argsq21 a).2 K = fnq21 a (outq21 a K) := by kernel_rfl
def vFq21 (a : Aq21) (K : AV → List AE.Obj → Ans) : Ans := bindO (fnDq21 a) fun y => outq21 a K y
def Fq21 : List AV → List AE.Obj → (AV → List AE.Obj → Ans) → Ans := fun l H K => bindO (decAq21 l H) fun a => vFq21 a K
theorem Fq21_ok : FuncOk Tryz.prog 56 Fq21 := func_mkD (hint := noHint) (d := 0) (n := 70) mixed tabOk envq21Ok Tryz.func56 (bodySome (by kernel_rfl)) (by decide +kernel) annq21_ok decAq21_ok fnq21_ok fnq21_nat
--@ ref07_Read
noncomputable def envq58 : Env := [(51,.func Fq57)]
theorem envq58Ok : EnvOk Tryz.prog envq58 := EnvOk.cons Fq57_ok (EnvOk.nil)
noncomputable def bq58 : Code := Tryz.f136.body.getD .skip
noncomputable def Lq58_n1 : Code := codeAt [1,1,1,1,0,1,0,0,1,0] bq58
noncomputable def annLq58_n1 : Ann := .none
theorem annLq58_n1_ok : AnnOk Tryz.prog 57 Lq58_n1 annLq58_n1 := (annOk_none _ _ _)
abbrev Iq58_n1 := (List UInt8) × (Int) × (Int) × (List Bool)
abbrev Yq58_n1 := ((List Bool)) ⊕ (Unit)
def Sq58_n1 : Iq58_n1 → St := fun (t1,t7,t8,o1) => { env := [(1,.str t1),(6,.ptr 0 0),(7,.int .i64 t7),(8,.int .i64 t8)],stk := [[]],H := [.cells [.own 1],.arr .bool o1],blk := 557057 }
def decPq58_n1 (s : St) : Option {x : Iq58_n1 // s = Sq58_n1 x} := match s with
  | { env := [(1,.str t1),(6,.ptr 0 0),(7,.int .i64 t7),(8,.int .i64 t8)],stk := [[]],H := [.cells [.own 1],.arr .bool o1],blk := 557057 } => some ⟨(t1,t7,t8,o1),rfl⟩
  | _ => none
def decq58_n1 (s : St) : Option Iq58_n1 := pk (decPq58_n1 s)
theorem decq58_n1_ok (s : St) (x : Iq58_n1) (h : decq58_n1 s = some x) : s = Sq58_n1 x := pk_ok (o := decPq58_n1 s) h
def outq58_n1 : Iq58_n1 → (Ex → St → Ans) → Yq58_n1 → Ans := fun (t1,t7,t8,o1) K => (Sum.elim (fun o1_y => K (Ex.norm) { env := [(1,.str t1),(6,.ptr 0 0),(7,.int .i64 t7),(8,.int .i64 t8)],stk := [[]],H := [.cells [.own 1],.arr .bool o1_y],blk := 557058 }) (fun _ => K (Ex.ret) { env := [(4,.nilp),(5,.int .i64 (4))],stk := [[]],H := [],blk := 557058 }))
def nodeq58_n1 {β : Type} : Iq58_n1 → (Yq58_n1 → Option β) → Option β := fun (t1,t7,t8,o1) exit => (bindO (nth t1 (IntKind.wrap .i64 (Int.tdiv t8 (8 : Int)))) fun x => (bif decide (Int.tmod t8 (8 : Int) < (0 : Int)) then none else (bif IntKind.wrap .u8 (↑(Int.toNat ((↑(UInt8.toNat x) : Int) % (256 : Int)) &&& Int.toNat (IntKind.wrap .u8 ((1 : Int) * (2 : Int) ^ min (Int.toNat (Int.tmod t8 (8 : Int))) (8 : Nat)) % (256 : Int))) : Int) == (0 : Int) then (exit (Sum.inl (o1))) else (bif decide (t8 ≥ (↑(List.length o1) : Int)) then (exit (Sum.inr ())) else (bif inR t8 (List.length o1) then (bindO (o1[Int.toNat t8]?) fun x_2 => (exit (Sum.inl (List.set o1 (Int.toNat t8) true)))) else none)))))
def nodeDq58_n1 (i : Iq58_n1) : Option Yq58_n1 := nodeq58_n1 i some
theorem nodeq58_n1_nat (i : Iq58_n1) (k : Yq58_n1 → Ans) : nodeq58_n1 i k = bindO (nodeDq58_n1 i) k := by
  obtain ⟨t1,t7,t8,o1⟩ := i
  simp only [nodeDq58_n1,nodeq58_n1,bindO_cond,bindO_assoc,bindO_none,bindO_pure,bindO_elim,bindO_unP,bindO_empty]
theorem nodeq58_n1_ok (i : Iq58_n1) (K : Ex → St → Ans) : codeI Tryz.tab envq58 noHint (codeD Tryz.tab envq58 noHint 0 64) 70 57 annLq58_n1 Lq58_n1 (weakP 0 (exk [1,6,7,8] [4,5] []) K) (Sq58_n1 i) = nodeq58_n1 i (outq58_n1 i K) := by kernel_rfl
theorem GNq58_n1_ok : CSum Tryz.prog 57 Lq58_n1 (sumN decq58_n1 nodeDq58_n1 outq58_n1) := csum_node mixed tabOk envq58Ok 0 (exk [1,6,7,8] [4,5] []) annLq58_n1_ok decq58_n1_ok nodeq58_n1_ok nodeq58_n1_nat
noncomputable def Gq58_n1 : (Ex → St → Ans) → St → Ans := (sumN decq58_n1 nodeDq58_n1 outq58_n1)
theorem Gq58_n1_ok : CSum Tryz.prog 57 Lq58_n1 Gq58_n1 := GNq58_n1_ok
noncomputable def Lq58_n0 : Code := codeAt [1,1,1,1,0,1,0,0] bq58
noncomputable def annLq58_n0 : Ann := .at 0 [1,6,7,8] (.loop (.seq .none (.seq (.cut 0 [1,6,7,8] Gq58_n1) .none)))
theorem annLq58_n0_ok : AnnOk Tryz.prog 57 (.loop Lq58_n0) annLq58_n0 := annOk_at ⟨(annOk_none _ _ _),⟨Gq58_n1_ok,(annOk_none _ _ _)⟩⟩
abbrev Iq58_n0 := (List UInt8) × (Int)
abbrev Yq58_n0 := (Unit) ⊕ ((List Bool))
abbrev Vq58_n0 := (Int) × (List Bool)
def Sq58_n0 : Iq58_n0 → Vq58_n0 → St := fun (t1,t7) (t8,o1) => { env := [(1,.str t1),(6,.ptr 0 0),(7,.int .i64 t7),(8,.int .i64 t8)],stk := [[]],H := [.cells [.own 1],.arr .bool o1],blk := 557057 }
def decPq58_n0 (s : St) : Option {x : Iq58_n0 × Vq58_n0 // s = Sq58_n0 x.1 x.2} := match s with
  | { env := [(1,.str t1),(6,.ptr 0 0),(7,.int .i64 t7),(8,.int .i64 t8)],stk := [[]],H := [.cells [.own 1],.arr .bool o1],blk := 557057 } => some ⟨((t1,t7),(t8,o1)),rfl⟩
  | _ => none
def decq58_n0 (s : St) : Option (Iq58_n0 × Vq58_n0) := pk (decPq58_n0 s)
theorem decq58_n0_ok (s : St) (x : Iq58_n0 × Vq58_n0) (h : decq58_n0 s = some x) : s = Sq58_n0 x.1 x.2 := pk_ok (o := decPq58_n0 s) h
def outq58_n0 : Iq58_n0 → (Ex → St → Ans) → Yq58_n0 → Ans := fun (t1,t7) K => (Sum.elim (fun _ => K (Ex.ret) { env := [(4,.nilp),(5,.int .i64 (4))],stk := [[]],H := [],blk := 557058 }) (fun o1_y => K (Ex.exit 1) { env := [(6,.ptr 0 0)],stk := [[]],H := [.cells [.own 1],.arr .bool o1_y],blk := 557057 }))
def stepq58_n0 {β : Type} : Iq58_n0 → Vq58_n0 → (Vq58_n0 → Option β) → (Yq58_n0 → Option β) → Option β := fun (t1,t7) (t8,o1) next exit => (bif decide (t8 < IntKind.wrap .i64 ((8 : Int) * t7)) then (bindO (nodeDq58_n1 (t1,t7,t8,o1)) (Sum.elim (fun o1_2 => (next (IntKind.wrap .i64 (t8 + (1 : Int)),o1_2))) (fun _ => (exit (Sum.inl ()))))) else (exit (Sum.inr (o1))))
def stepDq58_n0 (i : Iq58_n0) (v : Vq58_n0) : Option (Vq58_n0 ⊕ Yq58_n0) := stepq58_n0 i v (fun v => some (.inl v)) (fun y => some (.inr y))
theorem stepq58_n0_nat (i : Iq58_n0) (v : Vq58_n0) (next : Vq58_n0 → Ans) (exit : Yq58_n0 → Ans) : stepq58_n0 i v next exit = bindO (stepDq58_n0 i v) (Sum.elim next exit) := by
  obtain ⟨t1,t7⟩ := i
  obtain ⟨t8,o1⟩ := v
  simp only [stepDq58_n0,stepq58_n0,bindO_cond,bindO_assoc,bindO_none,bindO_pure,bindO_elim,bindO_unP,bindO_empty,Sum.elim_inl,Sum.elim_inr]
theorem stepq58_n0_ok (n : Nat) (i : Iq58_n0) (v : Vq58_n0) (K : Ex → St → Ans) : codeI Tryz.tab envq58 noHint (codeD Tryz.tab envq58 noHint 0 64) (n+1) 57 annLq58_n0 (.loop Lq58_n0) (weakP 0 (exk [6] [4,5] [(1,[6])]) K) (Sq58_n0 i v) = stepq58_n0 i v (fun v' => codeI Tryz.tab envq58 noHint (codeD Tryz.tab envq58 noHint 0 64) n 57 annLq58_n0 (.loop Lq58_n0) (weakP 0 (exk [6] [4,5] [(1,[6])]) K) (Sq58_n0 i v')) (fun y => outq58_n0 i K y) := by kernel_rfl
theorem GNq58_n0_ok : CSum Tryz.prog 57 (.loop Lq58_n0) (sumL decq58_n0 stepDq58_n0 outq58_n0) := csum_loop mixed tabOk envq58Ok 0 (exk [6] [4,5] [(1,[6])]) annLq58_n0_ok decq58_n0_ok stepq58_n0_ok stepq58_n0_nat
noncomputable def Gq58_n0 : (Ex → St → Ans) → St → Ans := (sumL decq58_n0 stepDq58_n0 outq58_n0)
theorem Gq58_n0_ok : CSum Tryz.prog 57 (.loop Lq58_n0) Gq58_n0 := GNq58_n0_ok
noncomputable def annq58 : Ann := (.seq .none (.seq .none (.seq .none (.seq .none (.seq (.seq .none (.block (.cut 0 [1,6,7,8] Gq58_n0))) .none)))))
theorem annq58_ok : AnnOk Tryz.prog 57 bq58 annq58 := ⟨(annOk_none _ _ _),⟨(annOk_none _ _ _),⟨(annOk_none _ _ _),⟨(annOk_none _ _ _),⟨⟨(annOk_none _ _ _),Gq58_n0_ok⟩,(annOk_none _ _ _)⟩⟩⟩⟩⟩
abbrev Aq58 := (Int) × (List UInt8)
abbrev Yq58 := ((Int)) ⊕ ((List Bool))
def fnq58 {β : Type} : Aq58 → (Yq58 → Option β) → Option β := fun (a0,a1) exit => (bindO (fnDq57 (a0)) fun o1 => (bif decide ((↑(List.length a1) : Int) < IntKind.wrap .i64 (Int.tdiv (IntKind.wrap .i64 ((↑(List.length o1) : Int) + (7 : Int))) (8 : Int))) then (exit (Sum.inl ((1 : Int)))) else (bif decide ((↑(List.length a1) : Int) > IntKind.wrap .i64 (Int.tdiv (IntKind.wrap .i64 ((↑(List.length o1) : Int) + (7 : Int))) (8 : Int))) then (exit (Sum.inl ((2 : Int)))) else (bindO (loopD (stepDq58_n0 (a1,IntKind.wrap .i64 (Int.tdiv (IntKind.wrap .i64 ((↑(List.length o1) : Int) + (7 : Int))) (8 : Int)))) FUEL ((0 : Int),o1)) (Sum.elim (fun _ => (exit (Sum.inl ((4 : Int))))) (fun o1_2 => (exit (Sum.inr (o1_2)))))))))
def fnDq58 (a : Aq58) : Option Yq58 := fnq58 a some
theorem fnq58_nat (a : Aq58) (k : Yq58 → Ans) : fnq58 a k = bindO (fnDq58 a) k := by
  obtain ⟨a0,a1⟩ := a
  simp only [fnDq58,fnq58,bindO_cond,bindO_assoc,bindO_none,bindO_pure,bindO_elim,bindO_unP,bindO_empty]
def argsq58 : Aq58 → List AV × List AE.Obj := fun (a0,a1) => ([.int .i64 a0,.str a1],[])
def decPAq58 (l : List AV) (H : List AE.Obj) : Option {a : Aq58 // (l,H) = argsq58 a} := match l,H with
  | [.int .i64 a0,.str a1],[] => some ⟨(a0,a1),rfl⟩
  | _,_ => none
def decAq58 (l : List AV) (H : List AE.Obj) : Option Aq58 := pk (decPAq58 l H)
theorem decAq58_ok (l : List AV) (H : List AE.Obj) (a : Aq58) (h : decAq58 l H = some a) : (l,H) = argsq58 a := pk_ok (o := decPAq58 l H) h
def outq58 : Aq58 → (AV → List AE.Obj → Ans) → Yq58 → Ans := fun (a0,a1) K => (Sum.elim (fun r_1_y => K (.tup [.nilp,.int .i64 r_1_y]) []) (fun o1_y => K (.tup [.ptr 0 0,.int .i64 (0)]) [.cells [.own 1],.arr .bool o1_y]))
theorem fnq58_ok (a : Aq58) (K : AV → List AE.Obj → Ans) : fnE Tryz.tab envq58 noHint 0 70 136 Tryz.f136.ntmps Tryz.f136.results.toList annq58 bq58 (argsq58 a).1 (argsq58 a).2 K = fnq58 a (outq58 a K) := by kernel_rfl
def vFq58 (a : Aq58) (K : AV → List AE.Obj → Ans) : Ans := bindO (fnDq58 a) fun y => outq58 a K y
def Fq58 : List AV → List AE.Obj → (AV → List AE.Obj → Ans) → Ans := fun l H K => bindO (decAq58 l H) fun a => vFq58 a K
theorem Fq58_ok : FuncOk Tryz.prog 136 Fq58 := func_mkD (hint := noHint) (d := 0) (n := 70) mixed tabOk envq58Ok Tryz.func136 (bodySome (by kernel_rfl)) (by decide +kernel) annq58_ok decAq58_ok fnq58_ok fnq58_nat
--@ ref19_Put_2
noncomputable def envq68 : Env := []
theorem envq68Ok : EnvOk Tryz.prog envq68 := EnvOk.nil
noncomputable def bq68 : Code := Tryz.f55.body.getD .skip
noncomputable def annq68 : Ann := .none
theorem annq68_ok : AnnOk Tryz.prog 25 bq68 annq68 := (annOk_none _ _ _)
abbrev Aq68 := Unit
abbrev Yq68 := Empty
def fnq68 {β : Type} : Aq68 → (Yq68 → Option β) → Option β := fun _ exit => none
def fnDq68 (a : Aq68) : Option Yq68 := fnq68 a some
theorem fnq68_nat (a : Aq68) (k : Yq68 → Ans) : fnq68 a k = bindO (fnDq68 a) k := by
  obtain z := a
  simp only [fnDq68,fnq68,bindO_cond,bindO_assoc,bindO_none,bindO_pure,bindO_elim,bindO_unP,bindO_empty]
def argsq68 : Aq68 → List AV × List AE.Obj := fun _ => ([.nilp],[])
def decPAq68 (l : List AV) (H : List AE.Obj) : Option {a : Aq68 // (l,H) = argsq68 a} := match l,H with
  | [.nilp],[] => some ⟨(),rfl⟩
  | _,_ => none
def decAq68 (l : List AV) (H : List AE.Obj) : Option Aq68 := pk (decPAq68 l H)
theorem decAq68_ok (l : List AV) (H : List AE.Obj) (a : Aq68) (h : decAq68 l H = some a) : (l,H) = argsq68 a := pk_ok (o := decPAq68 l H) h
def outq68 : Aq68 → (AV → List AE.Obj → Ans) → Yq68 → Ans := fun _ K => fun y => Empty.elim y
theorem fnq68_ok (a : Aq68) (K : AV → List AE.Obj → Ans) : fnE Tryz.tab envq68 noHint 0 70 55 Tryz.f55.ntmps Tryz.f55.results.toList annq68 bq68 (argsq68 a).1 (argsq68 a).2 K = fnq68 a (outq68 a K) := by kernel_rfl
def vFq68 (a : Aq68) (K : AV → List AE.Obj → Ans) : Ans := bindO (fnDq68 a) fun y => outq68 a K y
def Fq68 : List AV → List AE.Obj → (AV → List AE.Obj → Ans) → Ans := fun l H K => bindO (decAq68 l H) fun a => vFq68 a K
theorem Fq68_ok : FuncOk Tryz.prog 55 Fq68 := func_mkD (hint := noHint) (d := 0) (n := 70) mixed tabOk envq68Ok Tryz.func55 (bodySome (by kernel_rfl)) (by decide +kernel) annq68_ok decAq68_ok fnq68_ok fnq68_nat
--@ ref19_Get
noncomputable def envq66 : Env := [(126,.pure Fq56),(55,.func (altF decAq67 vFq67 Fq68)),(136,.func Fq58)]
theorem envq66Ok : EnvOk Tryz.prog envq66 := EnvOk.cons Fq56_ok (EnvOk.cons (func_altF Fq67_ok Fq68_ok) (EnvOk.cons Fq58_ok (EnvOk.nil)))
noncomputable def bq66 : Code := Tryz.f57.body.getD .skip
noncomputable def Lq66_n1 : Code := codeAt [1,0,0,1,1,0] bq66
noncomputable def annLq66_n1 : Ann := .none
theorem annLq66_n1_ok : AnnOk Tryz.prog 67 Lq66_n1 annLq66_n1 := (annOk_none _ _ _)
abbrev Iq66_n1 := (Int) × (List UInt8)
abbrev Yq66_n1 := (Bool)
def Sq66_n1 : Iq66_n1 → St := fun (t0,t1) => { env := [(0,.int .i64 t0),(1,.str t1)],stk := [[]],H := [],blk := 233472 }
def decPq66_n1 (s : St) : Option {x : Iq66_n1 // s = Sq66_n1 x} := match s with
  | { env := [(0,.int .i64 t0),(1,.str t1)],stk := [[]],H := [],blk := 233472 } => some ⟨(t0,t1),rfl⟩
  | _ => none
def decq66_n1 (s : St) : Option Iq66_n1 := pk (decPq66_n1 s)
theorem decq66_n1_ok (s : St) (x : Iq66_n1) (h : decq66_n1 s = some x) : s = Sq66_n1 x := pk_ok (o := decPq66_n1 s) h
def outq66_n1 : Iq66_n1 → (Ex → St → Ans) → Yq66_n1 → Ans := fun (t0,t1) K => fun t15_y => K (Ex.norm) { env := [(0,.int .i64 t0),(1,.str t1),(15,.bool t15_y)],stk := [[]],H := [],blk := 233472 }
def nodeq66_n1 {β : Type} : Iq66_n1 → (Yq66_n1 → Option β) → Option β := fun (t0,t1) exit => (bif decide (t0 < (0 : Int)) then (exit (true)) else (bif decide (t0 > (24 : Int)) then (exit (true)) else (bindO (nth t1 (0 : Int)) fun x => (bif (↑(UInt8.toNat x) : Int) != (74 : Int) then (exit (true)) else (bindO (nth t1 (1 : Int)) fun x_2 => (exit (IntKind.wrap .i64 (↑(UInt8.toNat x_2) : Int) != t0)))))))
def nodeDq66_n1 (i : Iq66_n1) : Option Yq66_n1 := nodeq66_n1 i some
theorem nodeq66_n1_nat (i : Iq66_n1) (k : Yq66_n1 → Ans) : nodeq66_n1 i k = bindO (nodeDq66_n1 i) k := by
  obtain ⟨t0,t1⟩ := i
  simp only [nodeDq66_n1,nodeq66_n1,bindO_cond,bindO_assoc,bindO_none,bindO_pure,bindO_elim,bindO_unP,bindO_empty]
theorem nodeq66_n1_ok (i : Iq66_n1) (K : Ex → St → Ans) : codeI Tryz.tab envq66 noHint (codeD Tryz.tab envq66 noHint 0 64) 70 67 annLq66_n1 Lq66_n1 (weakP 0 (exk [0,1,15] [4,5] []) K) (Sq66_n1 i) = nodeq66_n1 i (outq66_n1 i K) := by kernel_rfl
theorem GNq66_n1_ok : CSum Tryz.prog 67 Lq66_n1 (sumN decq66_n1 nodeDq66_n1 outq66_n1) := csum_node mixed tabOk envq66Ok 0 (exk [0,1,15] [4,5] []) annLq66_n1_ok decq66_n1_ok nodeq66_n1_ok nodeq66_n1_nat
noncomputable def Gq66_n1 : (Ex → St → Ans) → St → Ans := (sumN decq66_n1 nodeDq66_n1 outq66_n1)
theorem Gq66_n1_ok : CSum Tryz.prog 67 Lq66_n1 Gq66_n1 := GNq66_n1_ok
noncomputable def Lq66_n0 : Code := codeAt [1,0] bq66
noncomputable def annLq66_n0 : Ann := (.block (.seq .none (.cond .none (.seq (.cut 0 [0,1] Gq66_n1) .none))))
theorem annLq66_n0_ok : AnnOk Tryz.prog 67 Lq66_n0 annLq66_n0 := ⟨(annOk_none _ _ _),⟨(annOk_none _ _ _),⟨Gq66_n1_ok,(annOk_none _ _ _)⟩⟩⟩
abbrev Iq66_n0 := (Int) × (List UInt8)
abbrev Yq66_n0 := ((Int)) ⊕ (Unit)
def Sq66_n0 : Iq66_n0 → St := fun (t0,t1) => { env := [(0,.int .i64 t0),(1,.str t1)],stk := [[]],H := [],blk := 233472 }
def decPq66_n0 (s : St) : Option {x : Iq66_n0 // s = Sq66_n0 x} := match s with
  | { env := [(0,.int .i64 t0),(1,.str t1)],stk := [[]],H := [],blk := 233472 } => some ⟨(t0,t1),rfl⟩
  | _ => none
def decq66_n0 (s : St) : Option Iq66_n0 := pk (decPq66_n0 s)
theorem decq66_n0_ok (s : St) (x : Iq66_n0) (h : decq66_n0 s = some x) : s = Sq66_n0 x := pk_ok (o := decPq66_n0 s) h
def outq66_n0 : Iq66_n0 → (Ex → St → Ans) → Yq66_n0 → Ans := fun (t0,t1) K => (Sum.elim (fun t5_y => K (Ex.ret) { env := [(4,.nilp),(5,.int .i64 t5_y)],stk := [[]],H := [],blk := 233472 }) (fun _ => K (Ex.norm) { env := [(0,.int .i64 t0),(1,.str t1)],stk := [[]],H := [],blk := 233472 }))
def nodeq66_n0 {β : Type} : Iq66_n0 → (Yq66_n0 → Option β) → Option β := fun (t0,t1) exit => (bif (↑(List.length t1) : Int) != (64 : Int) then (exit (Sum.inl ((12 : Int)))) else (bindO (nodeDq66_n1 (t0,t1)) fun t15 => (bif t15 then (exit (Sum.inl ((4 : Int)))) else (exit (Sum.inr ())))))
def nodeDq66_n0 (i : Iq66_n0) : Option Yq66_n0 := nodeq66_n0 i some
theorem nodeq66_n0_nat (i : Iq66_n0) (k : Yq66_n0 → Ans) : nodeq66_n0 i k = bindO (nodeDq66_n0 i) k := by
  obtain ⟨t0,t1⟩ := i
  simp only [nodeDq66_n0,nodeq66_n0,bindO_cond,bindO_assoc,bindO_none,bindO_pure,bindO_elim,bindO_unP,bindO_empty]
theorem nodeq66_n0_ok (i : Iq66_n0) (K : Ex → St → Ans) : codeI Tryz.tab envq66 noHint (codeD Tryz.tab envq66 noHint 0 64) 70 67 annLq66_n0 Lq66_n0 (weakP 0 (exk [0,1] [4,5] []) K) (Sq66_n0 i) = nodeq66_n0 i (outq66_n0 i K) := by kernel_rfl
theorem GNq66_n0_ok : CSum Tryz.prog 67 Lq66_n0 (sumN decq66_n0 nodeDq66_n0 outq66_n0) := csum_node mixed tabOk envq66Ok 0 (exk [0,1] [4,5] []) annLq66_n0_ok decq66_n0_ok nodeq66_n0_ok nodeq66_n0_nat
noncomputable def Gq66_n0 : (Ex → St → Ans) → St → Ans := (sumN decq66_n0 nodeDq66_n0 outq66_n0)
theorem Gq66_n0_ok : CSum Tryz.prog 67 Lq66_n0 Gq66_n0 := GNq66_n0_ok
noncomputable def annq66 : Ann := (.seq .none (.seq (.cut 0 [0,1] Gq66_n0) .none))
theorem annq66_ok : AnnOk Tryz.prog 67 bq66 annq66 := ⟨(annOk_none _ _ _),⟨Gq66_n0_ok,(annOk_none _ _ _)⟩⟩
abbrev Aq66 := (Int) × (List UInt8)
abbrev Yq66 := ((Int)) ⊕ ((List Bool))
def fnq66 {β : Type} : Aq66 → (Yq66 → Option β) → Option β := fun (a0,a1) exit => (bindO (nodeDq66_n0 (a0,a1)) (Sum.elim (fun t5 => (exit (Sum.inl (t5)))) (fun _ => (bif inR (IntKind.wrap .i64 (IntKind.wrap .i64 ((2 : Int) + IntKind.wrap .i64 (Int.tdiv (IntKind.wrap .i64 (a0 + (7 : Int))) (8 : Int))) + (4 : Int))) (List.length a1 + (1 : Nat)) && inR (IntKind.wrap .i64 ((2 : Int) + IntKind.wrap .i64 (Int.tdiv (IntKind.wrap .i64 (a0 + (7 : Int))) (8 : Int)))) (Int.toNat (IntKind.wrap .i64 (IntKind.wrap .i64 ((2 : Int) + IntKind.wrap .i64 (Int.tdiv (IntKind.wrap .i64 (a0 + (7 : Int))) (8 : Int))) + (4 : Int))) + (1 : Nat)) then (bif inR (IntKind.wrap .i64 ((2 : Int) + IntKind.wrap .i64 (Int.tdiv (IntKind.wrap .i64 (a0 + (7 : Int))) (8 : Int)))) (List.length a1 + (1 : Nat)) then (bindO (fnDq56 (List.take (Int.toNat (IntKind.wrap .i64 ((2 : Int) + IntKind.wrap .i64 (Int.tdiv (IntKind.wrap .i64 (a0 + (7 : Int))) (8 : Int))))) a1)) fun r => (bif !List.take (Int.toNat (IntKind.wrap .i64 (IntKind.wrap .i64 ((2 : Int) + IntKind.wrap .i64 (Int.tdiv (IntKind.wrap .i64 (a0 + (7 : Int))) (8 : Int))) + (4 : Int))) - Int.toNat (IntKind.wrap .i64 ((2 : Int) + IntKind.wrap .i64 (Int.tdiv (IntKind.wrap .i64 (a0 + (7 : Int))) (8 : Int))))) (List.drop (Int.toNat (IntKind.wrap .i64 ((2 : Int) + IntKind.wrap .i64 (Int.tdiv (IntKind.wrap .i64 (a0 + (7 : Int))) (8 : Int))))) a1) == r then (exit (Sum.inl ((5 : Int)))) else (bif inR (IntKind.wrap .i64 ((2 : Int) + IntKind.wrap .i64 (Int.tdiv (IntKind.wrap .i64 (a0 + (7 : Int))) (8 : Int)))) (List.length a1 + (1 : Nat)) && inR (2 : Int) (Int.toNat (IntKind.wrap .i64 ((2 : Int) + IntKind.wrap .i64 (Int.tdiv (IntKind.wrap .i64 (a0 + (7 : Int))) (8 : Int)))) + (1 : Nat)) then (bindO (fnDq58 (a0,List.take (Int.toNat (IntKind.wrap .i64 ((2 : Int) + IntKind.wrap .i64 (Int.tdiv (IntKind.wrap .i64 (a0 + (7 : Int))) (8 : Int)))) - (2 : Nat)) (List.drop (2 : Nat) a1))) (Sum.elim (fun r_1 => (bif r_1 != (0 : Int) then (exit (Sum.inl ((4 : Int)))) else (bindO (fnDq68 ()) fun y => Empty.elim y))) (fun o1 => (bindO (fnDq67 (o1)) (unP fun r_0 r_1 => (bif !r_0 == a1 then (exit (Sum.inl ((4 : Int)))) else (exit (Sum.inr (o1))))))))) else none))) else none) else none))))
def fnDq66 (a : Aq66) : Option Yq66 := fnq66 a some
theorem fnq66_nat (a : Aq66) (k : Yq66 → Ans) : fnq66 a k = bindO (fnDq66 a) k := by
  obtain ⟨a0,a1⟩ := a
  simp only [fnDq66,fnq66,bindO_cond,bindO_assoc,bindO_none,bindO_pure,bindO_elim,bindO_unP,bindO_empty]
def argsq66 : Aq66 → List AV × List AE.Obj := fun (a0,a1) => ([.int .i64 a0,.str a1],[])
def decPAq66 (l : List AV) (H : List AE.Obj) : Option {a : Aq66 // (l,H) = argsq66 a} := match l,H with
  | [.int .i64 a0,.str a1],[] => some ⟨(a0,a1),rfl⟩
  | _,_ => none
def decAq66 (l : List AV) (H : List AE.Obj) : Option Aq66 := pk (decPAq66 l H)
theorem decAq66_ok (l : List AV) (H : List AE.Obj) (a : Aq66) (h : decAq66 l H = some a) : (l,H) = argsq66 a := pk_ok (o := decPAq66 l H) h
def outq66 : Aq66 → (AV → List AE.Obj → Ans) → Yq66 → Ans := fun (a0,a1) K => (Sum.elim (fun r_1_y => K (.tup [.nilp,.int .i64 r_1_y]) []) (fun o1_y => K (.tup [.ptr 0 0,.int .i64 (0)]) [.cells [.own 1],.arr .bool o1_y]))
theorem fnq66_ok (a : Aq66) (K : AV → List AE.Obj → Ans) : fnE Tryz.tab envq66 noHint 0 70 57 Tryz.f57.ntmps Tryz.f57.results.toList annq66 bq66 (argsq66 a).1 (argsq66 a).2 K = fnq66 a (outq66 a K) := by kernel_rfl
def vFq66 (a : Aq66) (K : AV → List AE.Obj → Ans) : Ans := bindO (fnDq66 a) fun y => outq66 a K y
def Fq66 : List AV → List AE.Obj → (AV → List AE.Obj → Ans) → Ans := fun l H K => bindO (decAq66 l H) fun a => vFq66 a K
theorem Fq66_ok : FuncOk Tryz.prog 57 Fq66 := func_mkD (hint := noHint) (d := 0) (n := 70) mixed tabOk envq66Ok Tryz.func57 (bodySome (by kernel_rfl)) (by decide +kernel) annq66_ok decAq66_ok fnq66_ok fnq66_nat
--@ marks_Set_Bytes_2
noncomputable def envq45 : Env := []
theorem envq45Ok : EnvOk Tryz.prog envq45 := EnvOk.nil
noncomputable def bq45 : Code := Tryz.f58.body.getD .skip
noncomputable def annq45 : Ann := .none
theorem annq45_ok : AnnOk Tryz.prog 10 bq45 annq45 := (annOk_none _ _ _)
abbrev Aq45 := Unit
abbrev Yq45 := Unit
def fnq45 {β : Type} : Aq45 → (Yq45 → Option β) → Option β := fun _ exit => (exit ())
def fnDq45 (a : Aq45) : Option Yq45 := fnq45 a some
theorem fnq45_nat (a : Aq45) (k : Yq45 → Ans) : fnq45 a k = bindO (fnDq45 a) k := by
  obtain z := a
  simp only [fnDq45,fnq45,bindO_cond,bindO_assoc,bindO_none,bindO_pure,bindO_elim,bindO_unP,bindO_empty]
def argsq45 : Aq45 → List AV × List AE.Obj := fun _ => ([.nilp],[])
def decPAq45 (l : List AV) (H : List AE.Obj) : Option {a : Aq45 // (l,H) = argsq45 a} := match l,H with
  | [.nilp],[] => some ⟨(),rfl⟩
  | _,_ => none
def decAq45 (l : List AV) (H : List AE.Obj) : Option Aq45 := pk (decPAq45 l H)
theorem decAq45_ok (l : List AV) (H : List AE.Obj) (a : Aq45) (h : decAq45 l H = some a) : (l,H) = argsq45 a := pk_ok (o := decPAq45 l H) h
def outq45 : Aq45 → (AV → List AE.Obj → Ans) → Yq45 → Ans := fun _ K => fun _ => K (.str ([])) []
theorem fnq45_ok (a : Aq45) (K : AV → List AE.Obj → Ans) : fnE Tryz.tab envq45 noHint 0 70 58 Tryz.f58.ntmps Tryz.f58.results.toList annq45 bq45 (argsq45 a).1 (argsq45 a).2 K = fnq45 a (outq45 a K) := by kernel_rfl
def vFq45 (a : Aq45) (K : AV → List AE.Obj → Ans) : Ans := bindO (fnDq45 a) fun y => outq45 a K y
def Fq45 : List AV → List AE.Obj → (AV → List AE.Obj → Ans) → Ans := fun l H K => bindO (decAq45 l H) fun a => vFq45 a K
theorem Fq45_ok : FuncOk Tryz.prog 58 Fq45 := func_mkD (hint := noHint) (d := 0) (n := 70) mixed tabOk envq45Ok Tryz.func58 (bodySome (by kernel_rfl)) (by decide +kernel) annq45_ok decAq45_ok fnq45_ok fnq45_nat
--@ law19_JournalCodes
noncomputable def envq24 : Env := [(49,.pure Flaw19_works),(50,.func Fq41),(51,.func Fq57),(52,.func Fq43),(53,.func Fq60),(60,.func Fq47),(58,.func (altF decAq44 vFq44 Fq45)),(54,.func (altF decAq22 vFq22 Fq23)),(59,.func Fq59),(55,.func Fq67),(56,.func Fq21),(57,.func Fq66)]
theorem envq24Ok : EnvOk Tryz.prog envq24 := EnvOk.cons Flaw19_works_ok (EnvOk.cons Fq41_ok (EnvOk.cons Fq57_ok (EnvOk.cons Fq43_ok (EnvOk.cons Fq60_ok (EnvOk.cons Fq47_ok (EnvOk.cons (func_altF Fq44_ok Fq45_ok) (EnvOk.cons (func_altF Fq22_ok Fq23_ok) (EnvOk.cons Fq59_ok (EnvOk.cons Fq67_ok (EnvOk.cons Fq21_ok (EnvOk.cons Fq66_ok (EnvOk.nil))))))))))))
noncomputable def bq24 : Code := Tryz.f8.body.getD .skip
noncomputable def Lq24_n3 : Code := codeAt [1,1,1,1,1,1,1,1,1,1,1,1,0] bq24
noncomputable def annLq24_n3 : Ann := .none
theorem annLq24_n3_ok : AnnOk Tryz.prog 148 Lq24_n3 annLq24_n3 := (annOk_none _ _ _)
abbrev Iq24_n3 := (Int) × (Int) × (Int) × (Int) × (List Bool)
abbrev Yq24_n3 := (Bool)
def Sq24_n3 : Iq24_n3 → St := fun (t11,t17,t19,t21,o1) => { env := [(8,.ptr 0 0),(11,.int .i64 t11),(16,.nilp),(17,.int .i64 t17),(18,.nilp),(19,.int .i64 t19),(20,.nilp),(21,.int .i64 t21)],stk := [[]],H := [.cells [.own 1],.arr .bool o1],blk := 32768 }
def decPq24_n3 (s : St) : Option {x : Iq24_n3 // s = Sq24_n3 x} := match s with
  | { env := [(8,.ptr 0 0),(11,.int .i64 t11),(16,.nilp),(17,.int .i64 t17),(18,.nilp),(19,.int .i64 t19),(20,.nilp),(21,.int .i64 t21)],stk := [[]],H := [.cells [.own 1],.arr .bool o1],blk := 32768 } => some ⟨(t11,t17,t19,t21,o1),rfl⟩
  | _ => none
def decq24_n3 (s : St) : Option Iq24_n3 := pk (decPq24_n3 s)
theorem decq24_n3_ok (s : St) (x : Iq24_n3) (h : decq24_n3 s = some x) : s = Sq24_n3 x := pk_ok (o := decPq24_n3 s) h
def outq24_n3 : Iq24_n3 → (Ex → St → Ans) → Yq24_n3 → Ans := fun (t11,t17,t19,t21,o1) K => fun t6_y => K (Ex.norm) { env := [(6,.bool t6_y)],stk := [[]],H := [],blk := 32768 }
def nodeq24_n3 {β : Type} : Iq24_n3 → (Yq24_n3 → Option β) → Option β := fun (t11,t17,t19,t21,o1) exit => (bif t17 == t19 then (bif t11 != (0 : Int) then (exit (true)) else (bif t21 == (0 : Int) then (bindO (fnDq45 ()) fun _ => (bindO (fnDq59 (o1)) fun r => (exit ([] == r)))) else (exit (false)))) else (exit (false)))
def nodeDq24_n3 (i : Iq24_n3) : Option Yq24_n3 := nodeq24_n3 i some
theorem nodeq24_n3_nat (i : Iq24_n3) (k : Yq24_n3 → Ans) : nodeq24_n3 i k = bindO (nodeDq24_n3 i) k := by
  obtain ⟨t11,t17,t19,t21,o1⟩ := i
  simp only [nodeDq24_n3,nodeq24_n3,bindO_cond,bindO_assoc,bindO_none,bindO_pure,bindO_elim,bindO_unP,bindO_empty]
theorem nodeq24_n3_ok (i : Iq24_n3) (K : Ex → St → Ans) : codeI Tryz.tab envq24 noHint (codeD Tryz.tab envq24 noHint 0 64) 70 148 annLq24_n3 Lq24_n3 (weakP 0 (exk [6] [6] []) K) (Sq24_n3 i) = nodeq24_n3 i (outq24_n3 i K) := by kernel_rfl
theorem GNq24_n3_ok : CSum Tryz.prog 148 Lq24_n3 (sumN decq24_n3 nodeDq24_n3 outq24_n3) := csum_node mixed tabOk envq24Ok 0 (exk [6] [6] []) annLq24_n3_ok decq24_n3_ok nodeq24_n3_ok nodeq24_n3_nat
abbrev Iq24_n3v1 := (Int) × (Int) × (Int) × (Int) × (List Bool) × (List Int)
abbrev Yq24_n3v1 := (Bool)
def Sq24_n3v1 : Iq24_n3v1 → St := fun (t11,t17,t19,o1_0,o2,o3) => { env := [(8,.ptr 0 0),(11,.int .i64 t11),(16,.nilp),(17,.int .i64 t17),(18,.nilp),(19,.int .i64 t19),(20,.ptr 1 0),(21,.int .i64 (0))],stk := [[]],H := [.cells [.own 2],.cells [.int .i64 o1_0,.own 3],.arr .bool o2,.arr (.int .u8) o3],blk := 32768 }
def decPq24_n3v1 (s : St) : Option {x : Iq24_n3v1 // s = Sq24_n3v1 x} := match s with
  | { env := [(8,.ptr 0 0),(11,.int .i64 t11),(16,.nilp),(17,.int .i64 t17),(18,.nilp),(19,.int .i64 t19),(20,.ptr 1 0),(21,.int .i64 r3)],stk := [[]],H := [.cells [.own 2],.cells [.int .i64 o1_0,.own 3],.arr .bool o2,.arr (.int .u8) o3],blk := 32768 } => if h3 : r3 = 0 then some ⟨(t11,t17,t19,o1_0,o2,o3),by subst h3; rfl⟩ else none
  | _ => none
def decq24_n3v1 (s : St) : Option Iq24_n3v1 := pk (decPq24_n3v1 s)
theorem decq24_n3v1_ok (s : St) (x : Iq24_n3v1) (h : decq24_n3v1 s = some x) : s = Sq24_n3v1 x := pk_ok (o := decPq24_n3v1 s) h
def outq24_n3v1 : Iq24_n3v1 → (Ex → St → Ans) → Yq24_n3v1 → Ans := fun (t11,t17,t19,o1_0,o2,o3) K => fun t6_y => K (Ex.norm) { env := [(6,.bool t6_y)],stk := [[]],H := [],blk := 32768 }
def nodeq24_n3v1 {β : Type} : Iq24_n3v1 → (Yq24_n3v1 → Option β) → Option β := fun (t11,t17,t19,o1_0,o2,o3) exit => (bif t17 == t19 then (bif t11 != (0 : Int) then (exit (true)) else (bindO (fnDq44 (o1_0,o3)) fun r => (bindO (fnDq59 (o2)) fun r_2 => (exit (r == r_2))))) else (exit (false)))
def nodeDq24_n3v1 (i : Iq24_n3v1) : Option Yq24_n3v1 := nodeq24_n3v1 i some
theorem nodeq24_n3v1_nat (i : Iq24_n3v1) (k : Yq24_n3v1 → Ans) : nodeq24_n3v1 i k = bindO (nodeDq24_n3v1 i) k := by
  obtain ⟨t11,t17,t19,o1_0,o2,o3⟩ := i
  simp only [nodeDq24_n3v1,nodeq24_n3v1,bindO_cond,bindO_assoc,bindO_none,bindO_pure,bindO_elim,bindO_unP,bindO_empty]
theorem nodeq24_n3v1_ok (i : Iq24_n3v1) (K : Ex → St → Ans) : codeI Tryz.tab envq24 noHint (codeD Tryz.tab envq24 noHint 0 64) 70 148 annLq24_n3 Lq24_n3 (weakP 0 (exk [6] [6] []) K) (Sq24_n3v1 i) = nodeq24_n3v1 i (outq24_n3v1 i K) := by kernel_rfl
theorem GNq24_n3v1_ok : CSum Tryz.prog 148 Lq24_n3 (sumN decq24_n3v1 nodeDq24_n3v1 outq24_n3v1) := csum_node mixed tabOk envq24Ok 0 (exk [6] [6] []) annLq24_n3_ok decq24_n3v1_ok nodeq24_n3v1_ok nodeq24_n3v1_nat
abbrev Iq24_n3v2 := (Int) × (Int) × (Int) × (List Bool) × (List Bool)
abbrev Yq24_n3v2 := Unit
def Sq24_n3v2 : Iq24_n3v2 → St := fun (t11,t17,t21,o2,o3) => { env := [(8,.ptr 0 0),(11,.int .i64 t11),(16,.nilp),(17,.int .i64 t17),(18,.ptr 1 0),(19,.int .i64 (0)),(20,.nilp),(21,.int .i64 t21)],stk := [[]],H := [.cells [.own 2],.cells [.own 3],.arr .bool o2,.arr .bool o3],blk := 32768 }
def decPq24_n3v2 (s : St) : Option {x : Iq24_n3v2 // s = Sq24_n3v2 x} := match s with
  | { env := [(8,.ptr 0 0),(11,.int .i64 t11),(16,.nilp),(17,.int .i64 t17),(18,.ptr 1 0),(19,.int .i64 r2),(20,.nilp),(21,.int .i64 t21)],stk := [[]],H := [.cells [.own 2],.cells [.own 3],.arr .bool o2,.arr .bool o3],blk := 32768 } => if h2 : r2 = 0 then some ⟨(t11,t17,t21,o2,o3),by subst h2; rfl⟩ else none
  | _ => none
def decq24_n3v2 (s : St) : Option Iq24_n3v2 := pk (decPq24_n3v2 s)
theorem decq24_n3v2_ok (s : St) (x : Iq24_n3v2) (h : decq24_n3v2 s = some x) : s = Sq24_n3v2 x := pk_ok (o := decPq24_n3v2 s) h
def outq24_n3v2 : Iq24_n3v2 → (Ex → St → Ans) → Yq24_n3v2 → Ans := fun (t11,t17,t21,o2,o3) K => fun _ => K (Ex.norm) { env := [(6,.bool (false))],stk := [[]],H := [],blk := 32768 }
def nodeq24_n3v2 {β : Type} : Iq24_n3v2 → (Yq24_n3v2 → Option β) → Option β := fun (t11,t17,t21,o2,o3) exit => (bif t17 == (0 : Int) then (exit ()) else (exit ()))
def nodeDq24_n3v2 (i : Iq24_n3v2) : Option Yq24_n3v2 := nodeq24_n3v2 i some
theorem nodeq24_n3v2_nat (i : Iq24_n3v2) (k : Yq24_n3v2 → Ans) : nodeq24_n3v2 i k = bindO (nodeDq24_n3v2 i) k := by
  obtain ⟨t11,t17,t21,o2,o3⟩ := i
  simp only [nodeDq24_n3v2,nodeq24_n3v2,bindO_cond,bindO_assoc,bindO_none,bindO_pure,bindO_elim,bindO_unP,bindO_empty]
theorem nodeq24_n3v2_ok (i : Iq24_n3v2) (K : Ex → St → Ans) : codeI Tryz.tab envq24 noHint (codeD Tryz.tab envq24 noHint 0 64) 70 148 annLq24_n3 Lq24_n3 (weakP 0 (exk [6] [6] []) K) (Sq24_n3v2 i) = nodeq24_n3v2 i (outq24_n3v2 i K) := by kernel_rfl
theorem GNq24_n3v2_ok : CSum Tryz.prog 148 Lq24_n3 (sumN decq24_n3v2 nodeDq24_n3v2 outq24_n3v2) := csum_node mixed tabOk envq24Ok 0 (exk [6] [6] []) annLq24_n3_ok decq24_n3v2_ok nodeq24_n3v2_ok nodeq24_n3v2_nat
abbrev Iq24_n3v3 := (Int) × (Int) × (Int) × (List Bool) × (List Bool) × (List Int)
abbrev Yq24_n3v3 := Unit
def Sq24_n3v3 : Iq24_n3v3 → St := fun (t11,t17,o2_0,o3,o4,o5) => { env := [(8,.ptr 0 0),(11,.int .i64 t11),(16,.nilp),(17,.int .i64 t17),(18,.ptr 1 0),(19,.int .i64 (0)),(20,.ptr 2 0),(21,.int .i64 (0))],stk := [[]],H := [.cells [.own 3],.cells [.own 4],.cells [.int .i64 o2_0,.own 5],.arr .bool o3,.arr .bool o4,.arr (.int .u8) o5],blk := 32768 }
def decPq24_n3v3 (s : St) : Option {x : Iq24_n3v3 // s = Sq24_n3v3 x} := match s with
  | { env := [(8,.ptr 0 0),(11,.int .i64 t11),(16,.nilp),(17,.int .i64 t17),(18,.ptr 1 0),(19,.int .i64 r2),(20,.ptr 2 0),(21,.int .i64 r3)],stk := [[]],H := [.cells [.own 3],.cells [.own 4],.cells [.int .i64 o2_0,.own 5],.arr .bool o3,.arr .bool o4,.arr (.int .u8) o5],blk := 32768 } => if h2 : r2 = 0 then if h3 : r3 = 0 then some ⟨(t11,t17,o2_0,o3,o4,o5),by subst h2 h3; rfl⟩ else none else none
  | _ => none
def decq24_n3v3 (s : St) : Option Iq24_n3v3 := pk (decPq24_n3v3 s)
theorem decq24_n3v3_ok (s : St) (x : Iq24_n3v3) (h : decq24_n3v3 s = some x) : s = Sq24_n3v3 x := pk_ok (o := decPq24_n3v3 s) h
def outq24_n3v3 : Iq24_n3v3 → (Ex → St → Ans) → Yq24_n3v3 → Ans := fun (t11,t17,o2_0,o3,o4,o5) K => fun _ => K (Ex.norm) { env := [(6,.bool (false))],stk := [[]],H := [],blk := 32768 }
def nodeq24_n3v3 {β : Type} : Iq24_n3v3 → (Yq24_n3v3 → Option β) → Option β := fun (t11,t17,o2_0,o3,o4,o5) exit => (bif t17 == (0 : Int) then (exit ()) else (exit ()))
def nodeDq24_n3v3 (i : Iq24_n3v3) : Option Yq24_n3v3 := nodeq24_n3v3 i some
theorem nodeq24_n3v3_nat (i : Iq24_n3v3) (k : Yq24_n3v3 → Ans) : nodeq24_n3v3 i k = bindO (nodeDq24_n3v3 i) k := by
  obtain ⟨t11,t17,o2_0,o3,o4,o5⟩ := i
  simp only [nodeDq24_n3v3,nodeq24_n3v3,bindO_cond,bindO_assoc,bindO_none,bindO_pure,bindO_elim,bindO_unP,bindO_empty]
theorem nodeq24_n3v3_ok (i : Iq24_n3v3) (K : Ex → St → Ans) : codeI Tryz.tab envq24 noHint (codeD Tryz.tab envq24 noHint 0 64) 70 148 annLq24_n3 Lq24_n3 (weakP 0 (exk [6] [6] []) K) (Sq24_n3v3 i) = nodeq24_n3v3 i (outq24_n3v3 i K) := by kernel_rfl
theorem GNq24_n3v3_ok : CSum Tryz.prog 148 Lq24_n3 (sumN decq24_n3v3 nodeDq24_n3v3 outq24_n3v3) := csum_node mixed tabOk envq24Ok 0 (exk [6] [6] []) annLq24_n3_ok decq24_n3v3_ok nodeq24_n3v3_ok nodeq24_n3v3_nat
abbrev Iq24_n3v4 := (Int) × (Int) × (Int) × (Int) × (List Bool) × (List Int)
abbrev Yq24_n3v4 := Unit
def Sq24_n3v4 : Iq24_n3v4 → St := fun (t11,t19,t21,o1_0,o2,o3) => { env := [(8,.ptr 0 0),(11,.int .i64 t11),(16,.ptr 1 0),(17,.int .i64 (0)),(18,.nilp),(19,.int .i64 t19),(20,.nilp),(21,.int .i64 t21)],stk := [[]],H := [.cells [.own 2],.cells [.int .i64 o1_0,.own 3],.arr .bool o2,.arr (.int .u8) o3],blk := 32768 }
def decPq24_n3v4 (s : St) : Option {x : Iq24_n3v4 // s = Sq24_n3v4 x} := match s with
  | { env := [(8,.ptr 0 0),(11,.int .i64 t11),(16,.ptr 1 0),(17,.int .i64 r1),(18,.nilp),(19,.int .i64 t19),(20,.nilp),(21,.int .i64 t21)],stk := [[]],H := [.cells [.own 2],.cells [.int .i64 o1_0,.own 3],.arr .bool o2,.arr (.int .u8) o3],blk := 32768 } => if h1 : r1 = 0 then some ⟨(t11,t19,t21,o1_0,o2,o3),by subst h1; rfl⟩ else none
  | _ => none
def decq24_n3v4 (s : St) : Option Iq24_n3v4 := pk (decPq24_n3v4 s)
theorem decq24_n3v4_ok (s : St) (x : Iq24_n3v4) (h : decq24_n3v4 s = some x) : s = Sq24_n3v4 x := pk_ok (o := decPq24_n3v4 s) h
def outq24_n3v4 : Iq24_n3v4 → (Ex → St → Ans) → Yq24_n3v4 → Ans := fun (t11,t19,t21,o1_0,o2,o3) K => fun _ => K (Ex.norm) { env := [(6,.bool (false))],stk := [[]],H := [],blk := 32768 }
def nodeq24_n3v4 {β : Type} : Iq24_n3v4 → (Yq24_n3v4 → Option β) → Option β := fun (t11,t19,t21,o1_0,o2,o3) exit => (bif (0 : Int) == t19 then (exit ()) else (exit ()))
def nodeDq24_n3v4 (i : Iq24_n3v4) : Option Yq24_n3v4 := nodeq24_n3v4 i some
theorem nodeq24_n3v4_nat (i : Iq24_n3v4) (k : Yq24_n3v4 → Ans) : nodeq24_n3v4 i k = bindO (nodeDq24_n3v4 i) k := by
  obtain ⟨t11,t19,t21,o1_0,o2,o3⟩ := i
  simp only [nodeDq24_n3v4,nodeq24_n3v4,bindO_cond,bindO_assoc,bindO_none,bindO_pure,bindO_elim,bindO_unP,bindO_empty]
theorem nodeq24_n3v4_ok (i : Iq24_n3v4) (K : Ex → St → Ans) : codeI Tryz.tab envq24 noHint (codeD Tryz.tab envq24 noHint 0 64) 70 148 annLq24_n3 Lq24_n3 (weakP 0 (exk [6] [6] []) K) (Sq24_n3v4 i) = nodeq24_n3v4 i (outq24_n3v4 i K) := by kernel_rfl
theorem GNq24_n3v4_ok : CSum Tryz.prog 148 Lq24_n3 (sumN decq24_n3v4 nodeDq24_n3v4 outq24_n3v4) := csum_node mixed tabOk envq24Ok 0 (exk [6] [6] []) annLq24_n3_ok decq24_n3v4_ok nodeq24_n3v4_ok nodeq24_n3v4_nat
abbrev Iq24_n3v5 := (Int) × (Int) × (Int) × (Int) × (List Bool) × (List Int) × (List Int)
abbrev Yq24_n3v5 := Unit
def Sq24_n3v5 : Iq24_n3v5 → St := fun (t11,t19,o1_0,o2_0,o3,o4,o5) => { env := [(8,.ptr 0 0),(11,.int .i64 t11),(16,.ptr 1 0),(17,.int .i64 (0)),(18,.nilp),(19,.int .i64 t19),(20,.ptr 2 0),(21,.int .i64 (0))],stk := [[]],H := [.cells [.own 3],.cells [.int .i64 o1_0,.own 4],.cells [.int .i64 o2_0,.own 5],.arr .bool o3,.arr (.int .u8) o4,.arr (.int .u8) o5],blk := 32768 }
def decPq24_n3v5 (s : St) : Option {x : Iq24_n3v5 // s = Sq24_n3v5 x} := match s with
  | { env := [(8,.ptr 0 0),(11,.int .i64 t11),(16,.ptr 1 0),(17,.int .i64 r1),(18,.nilp),(19,.int .i64 t19),(20,.ptr 2 0),(21,.int .i64 r3)],stk := [[]],H := [.cells [.own 3],.cells [.int .i64 o1_0,.own 4],.cells [.int .i64 o2_0,.own 5],.arr .bool o3,.arr (.int .u8) o4,.arr (.int .u8) o5],blk := 32768 } => if h1 : r1 = 0 then if h3 : r3 = 0 then some ⟨(t11,t19,o1_0,o2_0,o3,o4,o5),by subst h1 h3; rfl⟩ else none else none
  | _ => none
def decq24_n3v5 (s : St) : Option Iq24_n3v5 := pk (decPq24_n3v5 s)
theorem decq24_n3v5_ok (s : St) (x : Iq24_n3v5) (h : decq24_n3v5 s = some x) : s = Sq24_n3v5 x := pk_ok (o := decPq24_n3v5 s) h
def outq24_n3v5 : Iq24_n3v5 → (Ex → St → Ans) → Yq24_n3v5 → Ans := fun (t11,t19,o1_0,o2_0,o3,o4,o5) K => fun _ => K (Ex.norm) { env := [(6,.bool (false))],stk := [[]],H := [],blk := 32768 }
def nodeq24_n3v5 {β : Type} : Iq24_n3v5 → (Yq24_n3v5 → Option β) → Option β := fun (t11,t19,o1_0,o2_0,o3,o4,o5) exit => (bif (0 : Int) == t19 then (exit ()) else (exit ()))
def nodeDq24_n3v5 (i : Iq24_n3v5) : Option Yq24_n3v5 := nodeq24_n3v5 i some
theorem nodeq24_n3v5_nat (i : Iq24_n3v5) (k : Yq24_n3v5 → Ans) : nodeq24_n3v5 i k = bindO (nodeDq24_n3v5 i) k := by
  obtain ⟨t11,t19,o1_0,o2_0,o3,o4,o5⟩ := i
  simp only [nodeDq24_n3v5,nodeq24_n3v5,bindO_cond,bindO_assoc,bindO_none,bindO_pure,bindO_elim,bindO_unP,bindO_empty]
theorem nodeq24_n3v5_ok (i : Iq24_n3v5) (K : Ex → St → Ans) : codeI Tryz.tab envq24 noHint (codeD Tryz.tab envq24 noHint 0 64) 70 148 annLq24_n3 Lq24_n3 (weakP 0 (exk [6] [6] []) K) (Sq24_n3v5 i) = nodeq24_n3v5 i (outq24_n3v5 i K) := by kernel_rfl
theorem GNq24_n3v5_ok : CSum Tryz.prog 148 Lq24_n3 (sumN decq24_n3v5 nodeDq24_n3v5 outq24_n3v5) := csum_node mixed tabOk envq24Ok 0 (exk [6] [6] []) annLq24_n3_ok decq24_n3v5_ok nodeq24_n3v5_ok nodeq24_n3v5_nat
abbrev Iq24_n3v6 := (Int) × (Int) × (Int) × (List Bool) × (List Int) × (List Bool)
abbrev Yq24_n3v6 := (Bool)
def Sq24_n3v6 : Iq24_n3v6 → St := fun (t11,t21,o1_0,o3,o4,o5) => { env := [(8,.ptr 0 0),(11,.int .i64 t11),(16,.ptr 1 0),(17,.int .i64 (0)),(18,.ptr 2 0),(19,.int .i64 (0)),(20,.nilp),(21,.int .i64 t21)],stk := [[]],H := [.cells [.own 3],.cells [.int .i64 o1_0,.own 4],.cells [.own 5],.arr .bool o3,.arr (.int .u8) o4,.arr .bool o5],blk := 32768 }
def decPq24_n3v6 (s : St) : Option {x : Iq24_n3v6 // s = Sq24_n3v6 x} := match s with
  | { env := [(8,.ptr 0 0),(11,.int .i64 t11),(16,.ptr 1 0),(17,.int .i64 r1),(18,.ptr 2 0),(19,.int .i64 r2),(20,.nilp),(21,.int .i64 t21)],stk := [[]],H := [.cells [.own 3],.cells [.int .i64 o1_0,.own 4],.cells [.own 5],.arr .bool o3,.arr (.int .u8) o4,.arr .bool o5],blk := 32768 } => if h1 : r1 = 0 then if h2 : r2 = 0 then some ⟨(t11,t21,o1_0,o3,o4,o5),by subst h1 h2; rfl⟩ else none else none
  | _ => none
def decq24_n3v6 (s : St) : Option Iq24_n3v6 := pk (decPq24_n3v6 s)
theorem decq24_n3v6_ok (s : St) (x : Iq24_n3v6) (h : decq24_n3v6 s = some x) : s = Sq24_n3v6 x := pk_ok (o := decPq24_n3v6 s) h
def outq24_n3v6 : Iq24_n3v6 → (Ex → St → Ans) → Yq24_n3v6 → Ans := fun (t11,t21,o1_0,o3,o4,o5) K => fun t6_y => K (Ex.norm) { env := [(6,.bool t6_y)],stk := [[]],H := [],blk := 32768 }
def nodeq24_n3v6 {β : Type} : Iq24_n3v6 → (Yq24_n3v6 → Option β) → Option β := fun (t11,t21,o1_0,o3,o4,o5) exit => (bindO (fnDq44 (o1_0,o4)) fun r => (bindO (fnDq59 (o5)) fun r_2 => (bif r == r_2 then (bindO (fnDq47 (o1_0,o4)) fun _ => (bif o1_0 == (↑(List.length o5) : Int) then (bif t11 != (0 : Int) then (exit (true)) else (bif t21 == (0 : Int) then (bindO (fnDq45 ()) fun _ => (bindO (fnDq59 (o3)) fun r_3 => (exit ([] == r_3)))) else (exit (false)))) else (exit (false)))) else (exit (false)))))
def nodeDq24_n3v6 (i : Iq24_n3v6) : Option Yq24_n3v6 := nodeq24_n3v6 i some
theorem nodeq24_n3v6_nat (i : Iq24_n3v6) (k : Yq24_n3v6 → Ans) : nodeq24_n3v6 i k = bindO (nodeDq24_n3v6 i) k := by
  obtain ⟨t11,t21,o1_0,o3,o4,o5⟩ := i
  simp only [nodeDq24_n3v6,nodeq24_n3v6,bindO_cond,bindO_assoc,bindO_none,bindO_pure,bindO_elim,bindO_unP,bindO_empty]
theorem nodeq24_n3v6_ok (i : Iq24_n3v6) (K : Ex → St → Ans) : codeI Tryz.tab envq24 noHint (codeD Tryz.tab envq24 noHint 0 64) 70 148 annLq24_n3 Lq24_n3 (weakP 0 (exk [6] [6] []) K) (Sq24_n3v6 i) = nodeq24_n3v6 i (outq24_n3v6 i K) := by kernel_rfl
theorem GNq24_n3v6_ok : CSum Tryz.prog 148 Lq24_n3 (sumN decq24_n3v6 nodeDq24_n3v6 outq24_n3v6) := csum_node mixed tabOk envq24Ok 0 (exk [6] [6] []) annLq24_n3_ok decq24_n3v6_ok nodeq24_n3v6_ok nodeq24_n3v6_nat
abbrev Iq24_n3v7 := (Int) × (Int) × (Int) × (List Bool) × (List Int) × (List Bool) × (List Int)
abbrev Yq24_n3v7 := (Bool)
def Sq24_n3v7 : Iq24_n3v7 → St := fun (t11,o1_0,o3_0,o4,o5,o6,o7) => { env := [(8,.ptr 0 0),(11,.int .i64 t11),(16,.ptr 1 0),(17,.int .i64 (0)),(18,.ptr 2 0),(19,.int .i64 (0)),(20,.ptr 3 0),(21,.int .i64 (0))],stk := [[]],H := [.cells [.own 4],.cells [.int .i64 o1_0,.own 5],.cells [.own 6],.cells [.int .i64 o3_0,.own 7],.arr .bool o4,.arr (.int .u8) o5,.arr .bool o6,.arr (.int .u8) o7],blk := 32768 }
def decPq24_n3v7 (s : St) : Option {x : Iq24_n3v7 // s = Sq24_n3v7 x} := match s with
  | { env := [(8,.ptr 0 0),(11,.int .i64 t11),(16,.ptr 1 0),(17,.int .i64 r1),(18,.ptr 2 0),(19,.int .i64 r2),(20,.ptr 3 0),(21,.int .i64 r3)],stk := [[]],H := [.cells [.own 4],.cells [.int .i64 o1_0,.own 5],.cells [.own 6],.cells [.int .i64 o3_0,.own 7],.arr .bool o4,.arr (.int .u8) o5,.arr .bool o6,.arr (.int .u8) o7],blk := 32768 } => if h1 : r1 = 0 then if h2 : r2 = 0 then if h3 : r3 = 0 then some ⟨(t11,o1_0,o3_0,o4,o5,o6,o7),by subst h1 h2 h3; rfl⟩ else none else none else none
  | _ => none
def decq24_n3v7 (s : St) : Option Iq24_n3v7 := pk (decPq24_n3v7 s)
theorem decq24_n3v7_ok (s : St) (x : Iq24_n3v7) (h : decq24_n3v7 s = some x) : s = Sq24_n3v7 x := pk_ok (o := decPq24_n3v7 s) h
def outq24_n3v7 : Iq24_n3v7 → (Ex → St → Ans) → Yq24_n3v7 → Ans := fun (t11,o1_0,o3_0,o4,o5,o6,o7) K => fun t6_y => K (Ex.norm) { env := [(6,.bool t6_y)],stk := [[]],H := [],blk := 32768 }
def nodeq24_n3v7 {β : Type} : Iq24_n3v7 → (Yq24_n3v7 → Option β) → Option β := fun (t11,o1_0,o3_0,o4,o5,o6,o7) exit => (bindO (fnDq44 (o1_0,o5)) fun r => (bindO (fnDq59 (o6)) fun r_2 => (bif r == r_2 then (bindO (fnDq47 (o1_0,o5)) fun _ => (bif o1_0 == (↑(List.length o6) : Int) then (bif t11 != (0 : Int) then (exit (true)) else (bindO (fnDq44 (o3_0,o7)) fun r_3 => (bindO (fnDq59 (o4)) fun r_4 => (exit (r_3 == r_4))))) else (exit (false)))) else (exit (false)))))
def nodeDq24_n3v7 (i : Iq24_n3v7) : Option Yq24_n3v7 := nodeq24_n3v7 i some
theorem nodeq24_n3v7_nat (i : Iq24_n3v7) (k : Yq24_n3v7 → Ans) : nodeq24_n3v7 i k = bindO (nodeDq24_n3v7 i) k := by
  obtain ⟨t11,o1_0,o3_0,o4,o5,o6,o7⟩ := i
  simp only [nodeDq24_n3v7,nodeq24_n3v7,bindO_cond,bindO_assoc,bindO_none,bindO_pure,bindO_elim,bindO_unP,bindO_empty]
theorem nodeq24_n3v7_ok (i : Iq24_n3v7) (K : Ex → St → Ans) : codeI Tryz.tab envq24 noHint (codeD Tryz.tab envq24 noHint 0 64) 70 148 annLq24_n3 Lq24_n3 (weakP 0 (exk [6] [6] []) K) (Sq24_n3v7 i) = nodeq24_n3v7 i (outq24_n3v7 i K) := by kernel_rfl
theorem GNq24_n3v7_ok : CSum Tryz.prog 148 Lq24_n3 (sumN decq24_n3v7 nodeDq24_n3v7 outq24_n3v7) := csum_node mixed tabOk envq24Ok 0 (exk [6] [6] []) annLq24_n3_ok decq24_n3v7_ok nodeq24_n3v7_ok nodeq24_n3v7_nat
noncomputable def Gq24_n3 : (Ex → St → Ans) → St → Ans := (altN decq24_n3 (sumN decq24_n3 nodeDq24_n3 outq24_n3) (altN decq24_n3v1 (sumN decq24_n3v1 nodeDq24_n3v1 outq24_n3v1) (altN decq24_n3v2 (sumN decq24_n3v2 nodeDq24_n3v2 outq24_n3v2) (altN decq24_n3v3 (sumN decq24_n3v3 nodeDq24_n3v3 outq24_n3v3) (altN decq24_n3v4 (sumN decq24_n3v4 nodeDq24_n3v4 outq24_n3v4) (altN decq24_n3v5 (sumN decq24_n3v5 nodeDq24_n3v5 outq24_n3v5) (altN decq24_n3v6 (sumN decq24_n3v6 nodeDq24_n3v6 outq24_n3v6) (sumN decq24_n3v7 nodeDq24_n3v7 outq24_n3v7))))))))
theorem Gq24_n3_ok : CSum Tryz.prog 148 Lq24_n3 Gq24_n3 := (csum_altN GNq24_n3_ok (csum_altN GNq24_n3v1_ok (csum_altN GNq24_n3v2_ok (csum_altN GNq24_n3v3_ok (csum_altN GNq24_n3v4_ok (csum_altN GNq24_n3v5_ok (csum_altN GNq24_n3v6_ok GNq24_n3v7_ok)))))))
noncomputable def Lq24_n2 : Code := codeAt [1,1,1,1,1,1,1,1,0,0] bq24
noncomputable def annLq24_n2 : Ann := .none
theorem annLq24_n2_ok : AnnOk Tryz.prog 148 Lq24_n2 annLq24_n2 := (annOk_none _ _ _)
abbrev Iq24_n2 := (Int) × (List UInt8) × (List UInt8) × (Int) × (List UInt8) × (Int) × (List Bool)
abbrev Yq24_n2 := (Bool)
def Sq24_n2 : Iq24_n2 → St := fun (t0,t2,t10,t11,t12,t13,o1) => { env := [(0,.int .i64 t0),(2,.str t2),(8,.ptr 0 0),(10,.str t10),(11,.int .i64 t11),(12,.str t12),(13,.int .i64 t13),(15,.int .i64 (3))],stk := [[]],H := [.cells [.own 1],.arr .bool o1],blk := 32768 }
def decPq24_n2 (s : St) : Option {x : Iq24_n2 // s = Sq24_n2 x} := match s with
  | { env := [(0,.int .i64 t0),(2,.str t2),(8,.ptr 0 0),(10,.str t10),(11,.int .i64 t11),(12,.str t12),(13,.int .i64 t13),(15,.int .i64 r6)],stk := [[]],H := [.cells [.own 1],.arr .bool o1],blk := 32768 } => if h6 : r6 = 3 then some ⟨(t0,t2,t10,t11,t12,t13,o1),by subst h6; rfl⟩ else none
  | _ => none
def decq24_n2 (s : St) : Option Iq24_n2 := pk (decPq24_n2 s)
theorem decq24_n2_ok (s : St) (x : Iq24_n2) (h : decq24_n2 s = some x) : s = Sq24_n2 x := pk_ok (o := decPq24_n2 s) h
def outq24_n2 : Iq24_n2 → (Ex → St → Ans) → Yq24_n2 → Ans := fun (t0,t2,t10,t11,t12,t13,o1) K => fun t79_y => K (Ex.norm) { env := [(0,.int .i64 t0),(2,.str t2),(8,.ptr 0 0),(10,.str t10),(11,.int .i64 t11),(79,.bool t79_y)],stk := [[]],H := [.cells [.own 1],.arr .bool o1],blk := 32768 }
def nodeq24_n2 {β : Type} : Iq24_n2 → (Yq24_n2 → Option β) → Option β := fun (t0,t2,t10,t11,t12,t13,o1) exit => (bif !t10 == t12 then (exit (true)) else (bif t11 != t13 then (exit (true)) else (exit (false))))
def nodeDq24_n2 (i : Iq24_n2) : Option Yq24_n2 := nodeq24_n2 i some
theorem nodeq24_n2_nat (i : Iq24_n2) (k : Yq24_n2 → Ans) : nodeq24_n2 i k = bindO (nodeDq24_n2 i) k := by
  obtain ⟨t0,t2,t10,t11,t12,t13,o1⟩ := i
  simp only [nodeDq24_n2,nodeq24_n2,bindO_cond,bindO_assoc,bindO_none,bindO_pure,bindO_elim,bindO_unP,bindO_empty]
theorem nodeq24_n2_ok (i : Iq24_n2) (K : Ex → St → Ans) : codeI Tryz.tab envq24 noHint (codeD Tryz.tab envq24 noHint 0 64) 70 148 annLq24_n2 Lq24_n2 (weakP 0 (exk [0,2,8,10,11,79] [6] []) K) (Sq24_n2 i) = nodeq24_n2 i (outq24_n2 i K) := by kernel_rfl
theorem GNq24_n2_ok : CSum Tryz.prog 148 Lq24_n2 (sumN decq24_n2 nodeDq24_n2 outq24_n2) := csum_node mixed tabOk envq24Ok 0 (exk [0,2,8,10,11,79] [6] []) annLq24_n2_ok decq24_n2_ok nodeq24_n2_ok nodeq24_n2_nat
noncomputable def Gq24_n2 : (Ex → St → Ans) → St → Ans := (sumN decq24_n2 nodeDq24_n2 outq24_n2)
theorem Gq24_n2_ok : CSum Tryz.prog 148 Lq24_n2 Gq24_n2 := GNq24_n2_ok
noncomputable def Lq24_n1 : Code := codeAt [1,1,1,1,0,1,0,0] bq24
noncomputable def annLq24_n1 : Ann := .at 0 [0,1,2,7,8,9] (.loop .none)
theorem annLq24_n1_ok : AnnOk Tryz.prog 148 (.loop Lq24_n1) annLq24_n1 := annOk_at (annOk_none _ _ _)
abbrev Iq24_n1 := (Int) × (List Int) × (List UInt8) × (Int)
abbrev Yq24_n1 := (List Int) × (List Bool)
abbrev Vq24_n1 := (Int) × (List Int) × (List Bool)
def Sq24_n1 : Iq24_n1 → Vq24_n1 → St := fun (t0,t1,t2,o0_0) (t9,o2,o3) => { env := [(0,.int .i64 t0),(1,.ro (.int .i64) t1),(2,.str t2),(7,.ptr 0 0),(8,.ptr 1 0),(9,.int .i64 t9)],stk := [[]],H := [.cells [.int .i64 o0_0,.own 2],.cells [.own 3],.arr (.int .u8) o2,.arr .bool o3],blk := 32768 }
def decPq24_n1 (s : St) : Option {x : Iq24_n1 × Vq24_n1 // s = Sq24_n1 x.1 x.2} := match s with
  | { env := [(0,.int .i64 t0),(1,.ro (.int .i64) t1),(2,.str t2),(7,.ptr 0 0),(8,.ptr 1 0),(9,.int .i64 t9)],stk := [[]],H := [.cells [.int .i64 o0_0,.own 2],.cells [.own 3],.arr (.int .u8) o2,.arr .bool o3],blk := 32768 } => some ⟨((t0,t1,t2,o0_0),(t9,o2,o3)),rfl⟩
  | _ => none
def decq24_n1 (s : St) : Option (Iq24_n1 × Vq24_n1) := pk (decPq24_n1 s)
theorem decq24_n1_ok (s : St) (x : Iq24_n1 × Vq24_n1) (h : decq24_n1 s = some x) : s = Sq24_n1 x.1 x.2 := pk_ok (o := decPq24_n1 s) h
def outq24_n1 : Iq24_n1 → (Ex → St → Ans) → Yq24_n1 → Ans := fun (t0,t1,t2,o0_0) K => unP fun o2_y o3_y => K (Ex.exit 0) { env := [(0,.int .i64 t0),(2,.str t2),(7,.ptr 0 0),(8,.ptr 1 0)],stk := [[]],H := [.cells [.int .i64 o0_0,.own 2],.cells [.own 3],.arr (.int .u8) o2_y,.arr .bool o3_y],blk := 32768 }
def stepq24_n1 {β : Type} : Iq24_n1 → Vq24_n1 → (Vq24_n1 → Option β) → (Yq24_n1 → Option β) → Option β := fun (t0,t1,t2,o0_0) (t9,o2,o3) next exit => (bif decide (t9 < (↑(List.length t1) : Int)) then (bindO (nth t1 t9) fun x => (bindO (fnDq43 (x,o0_0,o2)) (unP fun r o1 => (bindO (nth t1 t9) fun x_2 => (bindO (fnDq60 (x_2,true,o3)) (Sum.elim (fun _ => (next (IntKind.wrap .i64 (t9 + (1 : Int)),o1,o3))) (fun o2_2 => (next (IntKind.wrap .i64 (t9 + (1 : Int)),o1,o2_2))))))))) else (exit (o2,o3)))
def stepDq24_n1 (i : Iq24_n1) (v : Vq24_n1) : Option (Vq24_n1 ⊕ Yq24_n1) := stepq24_n1 i v (fun v => some (.inl v)) (fun y => some (.inr y))
theorem stepq24_n1_nat (i : Iq24_n1) (v : Vq24_n1) (next : Vq24_n1 → Ans) (exit : Yq24_n1 → Ans) : stepq24_n1 i v next exit = bindO (stepDq24_n1 i v) (Sum.elim next exit) := by
  obtain ⟨t0,t1,t2,o0_0⟩ := i
  obtain ⟨t9,o2,o3⟩ := v
  simp only [stepDq24_n1,stepq24_n1,bindO_cond,bindO_assoc,bindO_none,bindO_pure,bindO_elim,bindO_unP,bindO_empty,Sum.elim_inl,Sum.elim_inr]
theorem stepq24_n1_ok (n : Nat) (i : Iq24_n1) (v : Vq24_n1) (K : Ex → St → Ans) : codeI Tryz.tab envq24 noHint (codeD Tryz.tab envq24 noHint 0 64) (n+1) 148 annLq24_n1 (.loop Lq24_n1) (weakP 0 (exk [0,2,7,8] [6] [(0,[0,2,7,8])]) K) (Sq24_n1 i v) = stepq24_n1 i v (fun v' => codeI Tryz.tab envq24 noHint (codeD Tryz.tab envq24 noHint 0 64) n 148 annLq24_n1 (.loop Lq24_n1) (weakP 0 (exk [0,2,7,8] [6] [(0,[0,2,7,8])]) K) (Sq24_n1 i v')) (fun y => outq24_n1 i K y) := by kernel_rfl
theorem GNq24_n1_ok : CSum Tryz.prog 148 (.loop Lq24_n1) (sumL decq24_n1 stepDq24_n1 outq24_n1) := csum_loop mixed tabOk envq24Ok 0 (exk [0,2,7,8] [6] [(0,[0,2,7,8])]) annLq24_n1_ok decq24_n1_ok stepq24_n1_ok stepq24_n1_nat
noncomputable def Gq24_n1 : (Ex → St → Ans) → St → Ans := (sumL decq24_n1 stepDq24_n1 outq24_n1)
theorem Gq24_n1_ok : CSum Tryz.prog 148 (.loop Lq24_n1) Gq24_n1 := GNq24_n1_ok
noncomputable def Lq24_n0 : Code := codeAt [1,1,0,0] bq24
noncomputable def annLq24_n0 : Ann := .none
theorem annLq24_n0_ok : AnnOk Tryz.prog 148 Lq24_n0 annLq24_n0 := (annOk_none _ _ _)
abbrev Iq24_n0 := (Int) × (List Int) × (List UInt8)
abbrev Yq24_n0 := (Bool)
def Sq24_n0 : Iq24_n0 → St := fun (t0,t1,t2) => { env := [(0,.int .i64 t0),(1,.ro (.int .i64) t1),(2,.str t2)],stk := [[]],H := [],blk := 32768 }
def decPq24_n0 (s : St) : Option {x : Iq24_n0 // s = Sq24_n0 x} := match s with
  | { env := [(0,.int .i64 t0),(1,.ro (.int .i64) t1),(2,.str t2)],stk := [[]],H := [],blk := 32768 } => some ⟨(t0,t1,t2),rfl⟩
  | _ => none
def decq24_n0 (s : St) : Option Iq24_n0 := pk (decPq24_n0 s)
theorem decq24_n0_ok (s : St) (x : Iq24_n0) (h : decq24_n0 s = some x) : s = Sq24_n0 x := pk_ok (o := decPq24_n0 s) h
def outq24_n0 : Iq24_n0 → (Ex → St → Ans) → Yq24_n0 → Ans := fun (t0,t1,t2) K => fun t31_y => K (Ex.norm) { env := [(0,.int .i64 t0),(1,.ro (.int .i64) t1),(2,.str t2),(31,.bool t31_y)],stk := [[]],H := [],blk := 32768 }
def nodeq24_n0 {β : Type} : Iq24_n0 → (Yq24_n0 → Option β) → Option β := fun (t0,t1,t2) exit => (bif decide ((↑(List.length t1) : Int) > (100 : Int)) then (exit (true)) else (exit (decide ((↑(List.length t2) : Int) > (3000 : Int)))))
def nodeDq24_n0 (i : Iq24_n0) : Option Yq24_n0 := nodeq24_n0 i some
theorem nodeq24_n0_nat (i : Iq24_n0) (k : Yq24_n0 → Ans) : nodeq24_n0 i k = bindO (nodeDq24_n0 i) k := by
  obtain ⟨t0,t1,t2⟩ := i
  simp only [nodeDq24_n0,nodeq24_n0,bindO_cond,bindO_assoc,bindO_none,bindO_pure,bindO_elim,bindO_unP,bindO_empty]
theorem nodeq24_n0_ok (i : Iq24_n0) (K : Ex → St → Ans) : codeI Tryz.tab envq24 noHint (codeD Tryz.tab envq24 noHint 0 64) 70 148 annLq24_n0 Lq24_n0 (weakP 0 (exk [0,1,2,31] [6] []) K) (Sq24_n0 i) = nodeq24_n0 i (outq24_n0 i K) := by kernel_rfl
theorem GNq24_n0_ok : CSum Tryz.prog 148 Lq24_n0 (sumN decq24_n0 nodeDq24_n0 outq24_n0) := csum_node mixed tabOk envq24Ok 0 (exk [0,1,2,31] [6] []) annLq24_n0_ok decq24_n0_ok nodeq24_n0_ok nodeq24_n0_nat
noncomputable def Gq24_n0 : (Ex → St → Ans) → St → Ans := (sumN decq24_n0 nodeDq24_n0 outq24_n0)
theorem Gq24_n0_ok : CSum Tryz.prog 148 Lq24_n0 Gq24_n0 := GNq24_n0_ok
noncomputable def annq24 : Ann := (.seq .none (.seq .none (.seq (.seq (.cut 0 [0,1,2] Gq24_n0) .none) (.seq .none (.seq (.seq .none (.block (.cut 0 [0,1,2,7,8,9] Gq24_n1))) (.seq .none (.seq .none (.seq .none (.seq (.seq (.cut 0 [0,2,8,10,11,12,13,15] Gq24_n2) .none) (.seq .none (.seq .none (.seq .none (.seq (.cut 0 [8,11,16,17,18,19,20,21] Gq24_n3) .none)))))))))))))
theorem annq24_ok : AnnOk Tryz.prog 148 bq24 annq24 := ⟨(annOk_none _ _ _),⟨(annOk_none _ _ _),⟨⟨Gq24_n0_ok,(annOk_none _ _ _)⟩,⟨(annOk_none _ _ _),⟨⟨(annOk_none _ _ _),Gq24_n1_ok⟩,⟨(annOk_none _ _ _),⟨(annOk_none _ _ _),⟨(annOk_none _ _ _),⟨⟨Gq24_n2_ok,(annOk_none _ _ _)⟩,⟨(annOk_none _ _ _),⟨(annOk_none _ _ _),⟨(annOk_none _ _ _),⟨Gq24_n3_ok,(annOk_none _ _ _)⟩⟩⟩⟩⟩⟩⟩⟩⟩⟩⟩⟩⟩
abbrev Aq24 := (Int) × (List Int) × (List UInt8)
abbrev Yq24 := (Bool)
def fnq24 {β : Type} : Aq24 → (Yq24 → Option β) → Option β := fun (a0,a1,a2) exit => (bindO (fnDlaw19_works ()) fun _ => (bindO (nodeDq24_n0 (a0,a1,a2)) fun t31 => (bif t31 then (exit (true)) else (bindO (fnDq41 (a0)) (unP fun o0_0 o1 => (bindO (fnDq57 (a0)) fun o1_2 => (bindO (loopD (stepDq24_n1 (a0,a1,a2,o0_0)) FUEL ((0 : Int),o1,o1_2)) (unP fun o2 o3 => (bindO (fnDq22 (o0_0,o2)) (unP fun r_0 r_1 => (bindO (fnDq67 (o3)) (unP fun r_0_2 r_1_2 => (bindO (fnDq23 ()) fun _ => (bindO (nodeDq24_n2 (a0,a2,r_0,r_1,r_0_2,r_1_2,o3)) fun t79 => (bif t79 then (exit (false)) else (bindO (fnDq21 (a0,a2)) (Sum.elim (fun r_1_3 => (bindO (fnDq66 (a0,a2)) (Sum.elim (fun r_1_4 => (bindO (fnDq21 ((↑(List.length o3) : Int),r_0)) (Sum.elim (fun r_1_5 => (bindO (nodeDq24_n3 (r_1,r_1_3,r_1_4,r_1_5,o3)) fun t6 => (exit (t6)))) (unP fun o0_0_2 o1_3 => (bindO (nodeDq24_n3v1 (r_1,r_1_3,r_1_4,o0_0_2,o3,o1_3)) fun t6 => (exit (t6))))))) (fun o1_3 => (bindO (fnDq21 ((↑(List.length o3) : Int),r_0)) (Sum.elim (fun r_1_4 => (bindO (nodeDq24_n3v2 (r_1,r_1_3,r_1_4,o3,o1_3)) fun _ => (exit (false)))) (unP fun o0_0_2 o1_4 => (bindO (nodeDq24_n3v3 (r_1,r_1_3,o0_0_2,o3,o1_3,o1_4)) fun _ => (exit (false)))))))))) (unP fun o0_0_2 o1_3 => (bindO (fnDq66 (a0,a2)) (Sum.elim (fun r_1_3 => (bindO (fnDq21 ((↑(List.length o3) : Int),r_0)) (Sum.elim (fun r_1_4 => (bindO (nodeDq24_n3v4 (r_1,r_1_3,r_1_4,o0_0_2,o3,o1_3)) fun _ => (exit (false)))) (unP fun o0_0_3 o1_4 => (bindO (nodeDq24_n3v5 (r_1,r_1_3,o0_0_2,o0_0_3,o3,o1_3,o1_4)) fun _ => (exit (false))))))) (fun o1_4 => (bindO (fnDq21 ((↑(List.length o3) : Int),r_0)) (Sum.elim (fun r_1_3 => (bindO (nodeDq24_n3v6 (r_1,r_1_3,o0_0_2,o3,o1_3,o1_4)) fun t6 => (exit (t6)))) (unP fun o0_0_3 o1_5 => (bindO (nodeDq24_n3v7 (r_1,o0_0_2,o0_0_3,o3,o1_3,o1_4,o1_5)) fun t6 => (exit (t6)))))))))))))))))))))))))))
def fnDq24 (a : Aq24) : Option Yq24 := fnq24 a some
theorem fnq24_nat (a : Aq24) (k : Yq24 → Ans) : fnq24 a k = bindO (fnDq24 a) k := by
  obtain ⟨a0,a1,a2⟩ := a
  simp only [fnDq24,fnq24,bindO_cond,bindO_assoc,bindO_none,bindO_pure,bindO_elim,bindO_unP,bindO_empty]
def argsq24 : Aq24 → List AV × List AE.Obj := fun (a0,a1,a2) => ([.int .i64 a0,.ro (.int .i64) a1,.str a2],[])
def outq24 : Aq24 → (AV → List AE.Obj → Ans) → Yq24 → Ans := fun (a0,a1,a2) K => fun r_y => K (.bool r_y) []
theorem fnq24_ok (a : Aq24) (K : AV → List AE.Obj → Ans) : fnE Tryz.tab envq24 noHint 0 70 8 Tryz.f8.ntmps Tryz.f8.results.toList annq24 bq24 (argsq24 a).1 (argsq24 a).2 K = fnq24 a (outq24 a K) := by kernel_rfl
end Go.Proofs.R7J
namespace Go.Proofs.R7J
open Go Go.AE Go.Plain
theorem wrapU32 {m : Nat} (h : m < 4294967296) : IntKind.wrap .u32 (m : Int) = (m : Int) := by
  simp [IntKind.wrap, IntKind.bits, IntKind.signed]; omega
theorem wrapU8 (m : Nat) : IntKind.wrap .u8 (m : Int) = ((m % 256 : Nat) : Int) := by
  simp [IntKind.wrap, IntKind.bits, IntKind.signed]
theorem natU32 {m : Nat} (h : m < 4294967296) : Int.toNat ((m : Int) % 4294967296) = m := by omega
theorem nat64 {m : Nat} (h : m < 9223372036854775808) : Int.toNat ((m : Int) % 18446744073709551616) = m := by omega
theorem wrapN {m : Nat} (h : m ≤ 9223372036854775807) : IntKind.wrap .i64 (m : Int) = (m : Int) := wrap64 (by omega) (by omega)
theorem fdiv_nat (m p : Nat) : Int.fdiv (m : Int) (p : Int) = ((m / p : Nat) : Int) := by rw [Int.fdiv_eq_ediv_of_nonneg _ (by omega)]; rfl
theorem tdiv_nat (m p : Nat) : Int.tdiv (m : Int) (p : Int) = ((m / p : Nat) : Int) := rfl
theorem bitStep_eq {n : Nat} (h : n < 4294967296) : IntKind.wrap .u32 (((Int.toNat (Int.fdiv (n : Int) 2 % 4294967296) ^^^ Int.toNat (IntKind.wrap .u32 (((3988292384 &&&
    Int.toNat (IntKind.wrap .u32 ((0 : Int) - IntKind.wrap .u32 (((Int.toNat ((n : Int) % 4294967296) &&& 1 : Nat)) : Int)) % 4294967296) : Nat)) : Int) % 4294967296) : Nat)) : Int) = ((bitStep n : Nat) : Int) := by
  have e1 : Int.fdiv (n : Int) 2 = ((n / 2 : Nat) : Int) := fdiv_nat n 2
  rw [e1, natU32 (m := n / 2) (by omega), natU32 h, Nat.and_one_is_mod]
  have hlt := bitStep_lt (n := n) (by omega)
  unfold bitStep at hlt ⊢
  have hn : n % 2 = 0 ∨ n % 2 = 1 := by omega
  rcases hn with hn | hn <;> rw [hn] at hlt ⊢
  · have : Int.toNat (IntKind.wrap .u32 (((3988292384 &&& Int.toNat (IntKind.wrap .u32 ((0 : Int) - IntKind.wrap .u32 ((0 : Nat) : Int)) % 4294967296) : Nat)) : Int) % 4294967296) = 0 := by decide
    rw [this]
    exact wrapU32 hlt
  · have : Int.toNat (IntKind.wrap .u32 (((3988292384 &&& Int.toNat (IntKind.wrap .u32 ((0 : Int) - IntKind.wrap .u32 ((1 : Nat) : Int)) % 4294967296) : Nat)) : Int) % 4294967296) = poly := by decide
    rw [this]
    exact wrapU32 hlt
theorem bits_succ (k n : Nat) : nbits (k + 1) n = bitStep (nbits k n) := by rw [← bits_add k 1]; rfl
theorem cyclic_step_eq {n c : Nat} (hn : n < 4294967296) (hc : c < 256) : fnDq5 ((n : Int), (c : Int)) = some ((byteStep n c : Nat) : Int) := by
  have hx : n ^^^ c < 4294967296 := Nat.xor_lt_two_pow (n := 32) hn (by omega)
  have key : ∃ y, loopD (stepDq5_n0 ()) FUEL (((n ^^^ c : Nat) : Int), (0 : Int)) = some y ∧ y = ((byteStep n c : Nat) : Int) := by
    refine loopD_inv (fun j v => j ≤ 8 ∧ v = (((nbits j (n ^^^ c) : Nat) : Int), (j : Int))) 8 _ ?_ ⟨by omega, rfl⟩ (by omega)
    rintro j v ⟨hj, rfl⟩
    have hb := bits_lt j (n := n ^^^ c) hx
    by_cases h8 : j < 8
    · left
      refine ⟨_, ?_, h8, by omega, rfl⟩
      simp only [stepDq5_n0, stepq5_n0, dec_true (show (j : Int) < 8 by omega), cond_true]
      rw [bitStep_eq hb, wrap64_nat (by omega), bits_succ]
    · right
      obtain rfl : j = 8 := by omega
      refine ⟨_, ?_, rfl⟩
      simp only [stepDq5_n0, stepq5_n0, dec_false (show ¬ ((8 : Nat) : Int) < 8 by omega), cond_false]
      rfl
  obtain ⟨y, hy, rfl⟩ := key
  have e : IntKind.wrap .u32 (((Int.toNat ((n : Int) % 4294967296) ^^^ Int.toNat (IntKind.wrap .u32 (c : Int) % 4294967296) : Nat)) : Int) = ((n ^^^ c : Nat) : Int) := by
    rw [natU32 hn, wrapU32 (m := c) (by omega), natU32 (m := c) (by omega), wrapU32 hx]
  simp only [fnDq5, fnq5]
  rw [e, hy]
  rfl
theorem run_take (m : Nat) {s : List UInt8} {j : Nat} {c : UInt8} (h : s[j]? = some c) : crun m (s.take (j + 1)) = byteStep (crun m (s.take j)) c.toNat := by
  rw [List.take_add_one, h, run_append]; rfl
theorem xor_all {n : Nat} (hn : n < 4294967296) : IntKind.wrap .u32 (((Int.toNat ((n : Int) % 4294967296) ^^^ 4294967295 : Nat)) : Int) = ((n ^^^ all32 : Nat) : Int) := by
  rw [natU32 hn, wrapU32 (Nat.xor_lt_two_pow (n := 32) hn (by decide))]
  rfl
theorem cyclic_Of_eq (s : List UInt8) (hs : s.length ≤ 1000000000000) : fnDq1 s = some ((crc s : Nat) : Int) := by
  have key : ∃ y, loopD (stepDq2_n0 (s, (s.length : Int), 0)) FUEL (((all32 : Nat) : Int), ((0 : Nat) : Int)) = some y ∧ y = ((crun all32 s : Nat) : Int) := by
    refine loopD_each s (fun j (_ : Unit) => (((crun all32 (s.take j) : Nat) : Int), (j : Int))) (fun _ _ => True) _ ?_ ?_ (s0 := ()) trivial (by omega)
    · intro j c _ hj hlt _
      left
      refine ⟨(), ?_, trivial⟩
      have hr := run_lt (s.take j) (n := all32) (by decide)
      simp only [stepDq2_n0, stepq2_n0, dec_true (show (j : Int) < (s.length : Int) by omega), cond_true, nth_of hj, bindO_pure, wrap64_nat (show j < 9223372036854775807 by omega), cyclic_step_eq hr c.toNat_lt, run_take all32 hj]
    · intro _ _
      simp only [stepDq2_n0, stepq2_n0, dec_false (show ¬ (s.length : Int) < (s.length : Int) by omega), cond_false]
      exact ⟨_, rfl, by rw [List.take_length]⟩
  obtain ⟨y, hy, rfl⟩ := key
  have hr := run_lt s (n := all32) (by decide)
  have hc : crun all32 s ^^^ all32 < 4294967296 := crc_lt s
  have h0 : IntKind.wrap .u32 (((Int.toNat ((0 : Int) % 4294967296) ^^^ 4294967295 : Nat)) : Int) = ((all32 : Nat) : Int) := by decide
  simp only [fnDq1, fnq1, fnDq0, fnq0, fnDq2, fnq2, fnDq3, fnq3, bindO_pure]
  have hy' : loopD (stepDq2_n0 (s, (s.length : Int), 0)) FUEL (((all32 : Nat) : Int), 0) = _ := hy
  rw [h0, hy']
  simp only [bindO_pure]
  rw [xor_all hr, wrapN (by omega)]
  rfl
theorem byte8 (n p : Nat) : UInt8.ofNat (Int.toNat (IntKind.wrap .u8 (Int.fdiv (n : Int) (p : Int)))) = UInt8.ofNat (n / p % 256) := by
  rw [fdiv_nat, wrapU8]
  rfl
theorem cyclic_Tail_eq (s : List UInt8) (hs : s.length ≤ 1000000000000) : fnDq4 s = some (tail s) := by
  simp only [fnDq4, fnq4, cyclic_Of_eq s hs, bindO_pure, nodeDq4_n0, nodeq4_n0, nodeDq4_n1, nodeq4_n1, nodeDq4_n1v1, nodeq4_n1v1, nodeDq4_n1v2, nodeq4_n1v2, nodeDq4_n1v3, nodeq4_n1v3, nodeDq4_n1v4, nodeq4_n1v4, unP]
  have b0 := byte8 (crc s) 1
  have b1 := byte8 (crc s) 256
  have b2 := byte8 (crc s) 65536
  have b3 := byte8 (crc s) 16777216
  simp only [Int.cast_ofNat_Int] at b0 b1 b2 b3
  unfold bytesOf tail le4
  simp only [List.map_cons, List.map_nil]
  rw [b0, b1, b2, b3, Nat.div_one]
theorem refbit_eq (t0 : List UInt8) {n : Nat} (t4 t5 : Int) (h : n < 4294967296) : nodeDq55_n2 (t0, (n : Int), t4, t5) = some ((bitStep n : Nat) : Int) := by
  simp only [nodeDq55_n2, nodeq55_n2]
  have e1 : Int.tmod (n : Int) 2 = ((n % 2 : Nat) : Int) := rfl
  have e2 : Int.tdiv (n : Int) 2 = ((n / 2 : Nat) : Int) := rfl
  have hlt := bitStep_lt (n := n) (by omega)
  rw [e1, e2, wrapN (m := n / 2) (by omega), nat64 (m := n / 2) (by omega)]
  change (bif (((n % 2 : Nat) : Int) == 1) then some (IntKind.wrap .i64 ((n / 2 ^^^ poly : Nat) : Int)) else some ((n / 2 : Nat) : Int)) = _
  unfold bitStep at hlt ⊢
  by_cases hn : n % 2 = 1
  · rw [if_pos hn] at hlt ⊢
    have : (((n % 2 : Nat) : Int) == 1) = true := by rw [hn]; rfl
    rw [this, cond_true, wrapN (by omega)]
  · rw [if_neg hn] at hlt ⊢
    have : (((n % 2 : Nat) : Int) == 1) = false := by rw [beq_eq_false_iff_ne]; omega
    rw [this, cond_false, Nat.xor_zero]
theorem ref03_Of_eq (s : List UInt8) (hs : s.length ≤ 1000000000000) : fnDq55 s = some ((crc s : Nat) : Int) := by
  have inner : ∀ (t4 : Int) {n : Nat}, n < 4294967296 → loopD (stepDq55_n1 (s, t4)) FUEL ((n : Int), 0) = some ((nbits 8 n : Nat) : Int) := by
    intro t4 n hn
    have key : ∃ y, loopD (stepDq55_n1 (s, t4)) FUEL ((n : Int), ((0 : Nat) : Int)) = some y ∧ y = ((nbits 8 n : Nat) : Int) := by
      refine loopD_inv (fun j v => j ≤ 8 ∧ v = (((nbits j n : Nat) : Int), (j : Int))) 8 _ ?_ ⟨by omega, rfl⟩ (by omega)
      rintro j v ⟨hj, rfl⟩
      by_cases h8 : j < 8
      · left
        refine ⟨_, ?_, h8, by omega, rfl⟩
        simp only [stepDq55_n1, stepq55_n1, dec_true (show (j : Int) < 8 by omega), cond_true, refbit_eq _ _ _ (bits_lt j hn), bindO_pure, wrap64_nat (show j < 9223372036854775807 by omega), bits_succ]
      · right
        obtain rfl : j = 8 := by omega
        simp only [stepDq55_n1, stepq55_n1, dec_false (show ¬ ((8 : Nat) : Int) < 8 by omega), cond_false]
        exact ⟨_, rfl, rfl⟩
    obtain ⟨y, hy, rfl⟩ := key
    exact hy
  have key : ∃ y, loopD (stepDq55_n0 s) FUEL (((all32 : Nat) : Int), ((0 : Nat) : Int)) = some y ∧ y = ((crun all32 s : Nat) : Int) := by
    refine loopD_each s (fun j (_ : Unit) => (((crun all32 (s.take j) : Nat) : Int), (j : Int))) (fun _ _ => True) _ ?_ ?_ (s0 := ()) trivial (by omega)
    · intro j c _ hj hlt _
      left
      refine ⟨(), ?_, trivial⟩
      have hr := run_lt (s.take j) (n := all32) (by decide)
      have hc : c.toNat < 256 := c.toNat_lt
      have hx : crun all32 (s.take j) ^^^ c.toNat < 4294967296 := Nat.xor_lt_two_pow (n := 32) hr (by omega)
      simp only [stepDq55_n0, stepq55_n0, dec_true (show (j : Int) < (s.length : Int) by omega), cond_true, nth_of hj, bindO_pure, wrap64_nat (show j < 9223372036854775807 by omega), run_take all32 hj]
      rw [wrapN (m := c.toNat) (by omega), nat64 (m := crun all32 (s.take j)) (by omega), nat64 (m := c.toNat) (by omega), wrapN (by omega), inner _ hx]
      rfl
    · intro _ _
      simp only [stepDq55_n0, stepq55_n0, dec_false (show ¬ (s.length : Int) < (s.length : Int) by omega), cond_false]
      exact ⟨_, rfl, by rw [List.take_length]⟩
  obtain ⟨y, hy, rfl⟩ := key
  have hy' : loopD (stepDq55_n0 s) FUEL ((4294967295 : Int), 0) = _ := hy
  have hr := run_lt s (n := all32) (by decide)
  have hc := crc_lt s
  simp only [fnDq55, fnq55, hy', bindO_pure]
  rw [nat64 (m := crun all32 s) (by omega)]
  change some (IntKind.wrap .i64 ((crc s : Nat) : Int)) = _
  rw [wrapN (by omega)]
theorem ref03_Tail_eq (s : List UInt8) (hs : s.length ≤ 1000000000000) : fnDq56 s = some (tail s) := by
  simp only [fnDq56, fnq56, ref03_Of_eq s hs, bindO_pure]
  have hc := crc_lt s
  have e : ∀ p : Nat, p ≤ 16777216 → IntKind.wrap .i64 (Int.tdiv ((crc s : Nat) : Int) (p : Int)) = ((crc s / p : Nat) : Int) := fun p _ => by
    rw [tdiv_nat, wrapN]
    have := Nat.div_le_self (crc s) p
    omega
  have e1 := e 256 (by omega)
  have e2 := e 65536 (by omega)
  have e3 := e 16777216 (by omega)
  simp only [Int.cast_ofNat_Int] at e1 e2 e3
  rw [e1, e2, e3]
  have m : ∀ n : Nat, Int.tmod (n : Int) 256 = ((n % 256 : Nat) : Int) := fun n => rfl
  rw [m, m, m, m, wrapU8, wrapU8, wrapU8, wrapU8]
  unfold bytesOf tail le4
  simp only [List.map_cons, List.map_nil, Int.toNat_natCast, Nat.mod_mod]
theorem repeat_zero : ∀ n : Nat, Lib.repeatL [0] n = List.replicate n 0
  | 0 => rfl
  | n + 1 => by rw [Lib.repeatL, repeat_zero n, List.replicate_succ]; rfl
theorem region_Pad_eq (s : List UInt8) (hs : s.length ≤ 1000000000000) : fnDq70 s = some (padTo s) := by
  have e : Int.tmod (s.length : Int) 64 = ((s.length % 64 : Nat) : Int) := rfl
  simp only [fnDq70, fnq70, e]
  by_cases h : s.length % 64 = 0
  · rw [dec_false (by omega), cond_false, padTo, h]
    simp
  · have e2 : IntKind.wrap .i64 ((64 : Int) - ((s.length % 64 : Nat) : Int)) = ((64 - s.length % 64 : Nat) : Int) := by rw [wrap64 (by omega) (by omega)]; omega
    rw [dec_true (by omega), cond_true, e2]
    have : fnDstrings_Repeat ([0], ((64 - s.length % 64 : Nat) : Int)) = some (List.replicate (64 - s.length % 64) 0) := by
      unfold fnDstrings_Repeat
      rw [repeat_zero]
      simp only [Int.toNat_natCast, List.length_cons, List.length_nil]
      rw [dec_true (by omega), dec_true (by omega), ble_true (by omega)]
      rfl
    rw [this]
    simp only [bindO_pure]
    rw [ble_true (by rw [List.length_replicate]; omega), cond_true, padTo, show (64 - s.length % 64) % 64 = 64 - s.length % 64 by omega]
theorem ref09_Pad_eq (s : List UInt8) (hs : s.length ≤ 1000000000000) : fnDq61 s = some (padTo s) := by
  have key : ∃ y, loopD (stepDq61_n0 ()) FUEL s = some y ∧ y = padTo s := by
    refine loopD_inv (fun j v => j ≤ (64 - s.length % 64) % 64 ∧ v = s ++ List.replicate j 0) ((64 - s.length % 64) % 64) _ ?_ ⟨by omega, by simp⟩ (by omega)
    rintro j v ⟨hj, rfl⟩
    have hl : (s ++ List.replicate j (0 : UInt8)).length = s.length + j := by simp
    have e : Int.tmod ((s.length + j : Nat) : Int) 64 = (((s.length + j) % 64 : Nat) : Int) := rfl
    simp only [stepDq61_n0, stepq61_n0, hl, e]
    by_cases hlt : j < (64 - s.length % 64) % 64
    · left
      have e1 : ((((s.length + j) % 64 : Nat) : Int) != 0) = true := by rw [bne_iff_ne]; omega
      rw [e1, cond_true, ble_true (by omega), cond_true]
      exact ⟨_, rfl, hlt, by omega, by rw [List.append_assoc, List.replicate_succ']⟩
    · right
      have e1 : ((((s.length + j) % 64 : Nat) : Int) != 0) = false := by rw [bne_eq_false_iff_eq]; omega
      rw [e1, cond_false]
      exact ⟨_, rfl, by rw [padTo, show j = (64 - s.length % 64) % 64 by omega]⟩
  obtain ⟨y, hy, rfl⟩ := key
  simp only [fnDq61, fnq61, hy, bindO_pure]
theorem pow256 (k : Nat) : (2 : Nat) ^ (8 * k) = 256 ^ k := by rw [Nat.pow_mul]
theorem field_Fits_eq (n : Int) (k : Nat) (hk : 1 ≤ k ∧ k ≤ 7) : fnDq14 (n, (k : Int)) = some (decide (0 ≤ n ∧ n < ((256 ^ k : Nat) : Int))) := by
  have w : IntKind.wrap .i64 ((8 : Int) * (k : Int)) = ((8 * k : Nat) : Int) := by rw [wrap64 (by omega) (by omega)]; omega
  simp only [fnDq14, fnq14, nodeDq14_n0, nodeq14_n0, fnDq20, fnq20, nodeDq20_n0, nodeq20_n0, bindO_pure]
  rw [dec_true (show (k : Int) ≥ 1 by omega), dec_true (show (k : Int) ≤ 7 by omega), cond_true]
  simp only [bindO_pure, cond_true]
  by_cases h0 : n ≥ 0
  · rw [dec_true h0, cond_true, w, dec_false (by omega), cond_false]
    simp only [bindO_pure]
    obtain ⟨m, rfl⟩ := Int.eq_ofNat_of_zero_le h0
    have : min (Int.toNat ((8 * k : Nat) : Int)) 64 = 8 * k := by simp only [Int.toNat_natCast]; omega
    rw [this]
    have : (2 : Int) ^ (8 * k) = ((2 ^ (8 * k) : Nat) : Int) := by simp
    rw [this, fdiv_nat, pow256]
    have hp : 0 < 256 ^ k := Nat.pow_pos (by omega)
    congr 1
    rw [Bool.eq_iff_iff, beq_iff_eq, decide_eq_true_eq]
    have : m / 256 ^ k = 0 ↔ m < 256 ^ k := Nat.div_eq_zero_iff_lt hp
    omega
  · rw [dec_false h0, cond_false]
    simp only [bindO_pure]
    rw [dec_false (by omega)]
def putN (s : List UInt8) (n : Int) (k : Nat) : List UInt8 := if 0 ≤ n ∧ n < ((256 ^ k : Nat) : Int) then s ++ be k n.toNat else s
theorem putN_len (s : List UInt8) (n : Int) (k : Nat) : (putN s n k).length ≤ s.length + k := by
  unfold putN; split
  · rw [List.length_append, be_length]; omega
  · omega
theorem bytes_ints (s : List UInt8) : bytesOf (intsOf s) = s := by
  unfold bytesOf intsOf
  rw [List.map_map]
  conv => rhs; rw [← List.map_id s]
  refine List.map_congr_left fun c _ => ?_
  simp
theorem field_Put_eq (s : List UInt8) (n : Int) (k : Nat) (hk : 1 ≤ k ∧ k ≤ 7) (hs : s.length ≤ 1000000000000) : fnDq16 (s, n, (k : Int)) = some (putN s n k) := by
  simp only [fnDq16, fnq16, field_Fits_eq n k hk, bindO_pure]
  unfold putN
  by_cases hf : 0 ≤ n ∧ n < ((256 ^ k : Nat) : Int)
  · rw [if_pos hf, dec_true hf]
    obtain ⟨m, rfl⟩ := Int.eq_ofNat_of_zero_le hf.1
    simp only [Bool.not_true, cond_false, Int.toNat_natCast]
    rw [dec_true (show (0 : Int) ≤ k by omega), dec_true (show (k : Int) ≤ k by omega), dec_true (show (1 : Int) * k ≤ 281474976710656 by omega), dec_true (show (k : Int) ≤ 9223372036854775807 by omega)]
    simp only [Bool.and_self, cond_true, List.length_replicate]
    have key : ∃ y, loopD (stepDq16_n0 (s, (m : Int), (k : Int), (k : Int))) FUEL (((0 : Nat) : Int), List.replicate k (0 : Int)) = some y ∧ y = intsOf (be k m) := by
      refine loopD_inv (fun j v => j ≤ k ∧ v = ((j : Int), (intsOf (be k m)).take j ++ List.replicate (k - j) 0)) k _ ?_ ⟨by omega, by simp⟩ (by omega)
      rintro j v ⟨hj, rfl⟩
      by_cases hlt : j < k
      · left
        refine ⟨_, ?_, hlt, by omega, rfl⟩
        have w1 : IntKind.wrap .i64 ((k : Int) - 1) = ((k - 1 : Nat) : Int) := by rw [wrap64 (by omega) (by omega)]; omega
        have w2 : IntKind.wrap .i64 (((k - 1 : Nat) : Int) - (j : Int)) = ((k - 1 - j : Nat) : Int) := by rw [wrap64 (by omega) (by omega)]; omega
        have w3 : IntKind.wrap .i64 ((8 : Int) * ((k - 1 - j : Nat) : Int)) = ((8 * (k - 1 - j) : Nat) : Int) := by rw [wrap64 (by omega) (by omega)]; omega
        have hlen : ((intsOf (be k m)).take j ++ List.replicate (k - j) (0 : Int)).length = k := by simp [intsOf, be_length]; omega
        have hget : ((intsOf (be k m)).take j ++ List.replicate (k - j) (0 : Int))[j]? = some 0 := by
          rw [List.getElem?_append_right (by simp [intsOf, be_length]; omega), List.getElem?_replicate, if_pos (by simp [intsOf, be_length]; omega)]
        simp only [stepDq16_n0, stepq16_n0, dec_true (show (j : Int) < (k : Int) by omega), cond_true, w1, w2, w3, dec_false (show ¬ ((8 * (k - 1 - j) : Nat) : Int) < 0 by omega), cond_false, hlen,
          inR_true (show (0 : Int) ≤ (j : Int) ∧ (j : Int) < (k : Int) by omega), Int.toNat_natCast, hget, bindO_pure, wrap64_nat (show j < 9223372036854775807 by omega)]
        have hm : min (8 * (k - 1 - j)) 64 = 8 * (k - 1 - j) := by omega
        have hp : (2 : Int) ^ (8 * (k - 1 - j)) = ((256 ^ (k - 1 - j) : Nat) : Int) := by rw [← pow256]; simp
        rw [hm, hp, fdiv_nat, wrapU8]
        have hb := be_get k m j hlt
        have hi : (intsOf (be k m))[j]? = some ((m / 256 ^ (k - 1 - j) % 256 : Nat) : Int) := by
          unfold intsOf
          rw [List.getElem?_map, hb]
          simp [ofNat_mod]
        congr 3
        apply List.ext_getElem?
        intro i
        have h1 : (intsOf (be k m)).length = k := by simp [intsOf, be_length]
        rw [List.getElem?_set]
        by_cases hij : j = i
        · subst hij
          rw [if_pos rfl, if_pos (by rw [hlen]; omega), List.getElem?_append_left (by rw [List.length_take]; omega), List.getElem?_take_of_lt (by omega), hi]
        · rw [if_neg hij]
          by_cases hij2 : i < j
          · rw [List.getElem?_append_left (by rw [List.length_take]; omega), List.getElem?_append_left (by rw [List.length_take]; omega), List.getElem?_take_of_lt hij2, List.getElem?_take_of_lt (by omega)]
          · rw [List.getElem?_append_right (by rw [List.length_take]; omega), List.getElem?_append_right (by rw [List.length_take]; omega), List.getElem?_replicate, List.getElem?_replicate, List.length_take, List.length_take]
            split <;> split <;> first | rfl | omega
      · right
        obtain rfl : j = k := by omega
        simp only [stepDq16_n0, stepq16_n0, dec_false (show ¬ (j : Int) < (j : Int) by omega), cond_false]
        refine ⟨_, rfl, ?_⟩
        rw [Nat.sub_self, List.replicate_zero, List.append_nil, List.take_of_length_le (by simp [intsOf, be_length])]
    obtain ⟨y, hy, rfl⟩ := key
    have hy' : loopD (stepDq16_n0 (s, (m : Int), (k : Int), (k : Int))) FUEL (0, List.replicate k (0 : Int)) = _ := hy
    rw [hy']
    simp only [bindO_pure, bytes_ints, be_length]
    rw [ble_true (by omega), cond_true]
  · rw [if_neg hf, dec_false hf]
    rfl
theorem ref02_Fits_eq (n : Int) (k : Nat) (hk : 1 ≤ k ∧ k ≤ 7) (hn : -9223372036854775808 ≤ n ∧ n ≤ 9223372036854775807) : fnDq53 (n, (k : Int)) = some (decide (0 ≤ n ∧ n < ((256 ^ k : Nat) : Int))) := by
  simp only [fnDq53, fnq53, nodeDq53_n0, nodeq53_n0, bindO_pure]
  rw [dec_false (show ¬ (k : Int) < 1 by omega), dec_false (show ¬ (k : Int) > 7 by omega), cond_false, cond_false]
  simp only [bindO_pure]
  by_cases h0 : n < 0
  · rw [dec_true h0, cond_true, dec_false (by omega)]
  · rw [dec_false h0, cond_false]
    obtain ⟨m, rfl⟩ := Int.eq_ofNat_of_zero_le (show 0 ≤ n by omega)
    have key : ∃ y, loopD (stepDq53_n1 (k : Int)) FUEL ((m : Int), ((0 : Nat) : Int)) = some y ∧ y = ((m / 256 ^ k : Nat) : Int) := by
      refine loopD_inv (fun j v => j ≤ k ∧ v = (((m / 256 ^ j : Nat) : Int), (j : Int))) k _ ?_ ⟨by omega, by simp⟩ (by omega)
      rintro j v ⟨hj, rfl⟩
      by_cases hlt : j < k
      · left
        refine ⟨_, ?_, hlt, by omega, rfl⟩
        have e : Int.tdiv ((m / 256 ^ j : Nat) : Int) 256 = ((m / 256 ^ (j + 1) : Nat) : Int) := by
          rw [Nat.pow_succ, ← Nat.div_div_eq_div_mul]; rfl
        have hle := Nat.div_le_self m (256 ^ (j + 1))
        simp only [stepDq53_n1, stepq53_n1, dec_true (show (j : Int) < (k : Int) by omega), cond_true, e, wrapN (show m / 256 ^ (j + 1) ≤ 9223372036854775807 by omega), wrap64_nat (show j < 9223372036854775807 by omega)]
      · right
        obtain rfl : j = k := by omega
        simp only [stepDq53_n1, stepq53_n1, dec_false (show ¬ (j : Int) < (j : Int) by omega), cond_false]
        exact ⟨_, rfl, rfl⟩
    obtain ⟨y, hy, rfl⟩ := key
    have hy' : loopD (stepDq53_n1 (k : Int)) FUEL ((m : Int), 0) = _ := hy
    rw [hy']
    simp only [bindO_pure]
    have hp : 0 < 256 ^ k := Nat.pow_pos (by omega)
    congr 1
    rw [Bool.eq_iff_iff, beq_iff_eq, decide_eq_true_eq, Int.natCast_eq_zero, Nat.div_eq_zero_iff_lt hp]
    omega
theorem ref02_Put_eq (s : List UInt8) (n : Int) (k : Nat) (hk : 1 ≤ k ∧ k ≤ 7) (hn : -9223372036854775808 ≤ n ∧ n ≤ 9223372036854775807) (hs : s.length ≤ 1000000000000) : fnDq54 (s, n, (k : Int)) = some (putN s n k) := by
  simp only [fnDq54, fnq54, ref02_Fits_eq n k hk hn, bindO_pure]
  unfold putN
  by_cases hf : 0 ≤ n ∧ n < ((256 ^ k : Nat) : Int)
  · rw [if_pos hf, dec_true hf]
    obtain ⟨m, rfl⟩ := Int.eq_ofNat_of_zero_le hf.1
    simp only [Bool.not_true, cond_false, Int.toNat_natCast]
    have key : ∃ y, loopD (stepDq54_n0 (s, (k : Int))) FUEL ((m : Int), ([] : List UInt8), ((0 : Nat) : Int)) = some y ∧ y = be k m := by
      refine loopD_inv (fun j v => j ≤ k ∧ v = (((m / 256 ^ j : Nat) : Int), be j m, (j : Int))) k _ ?_ ⟨by omega, by simp [be]⟩ (by omega)
      rintro j v ⟨hj, rfl⟩
      by_cases hlt : j < k
      · left
        refine ⟨_, ?_, hlt, by omega, rfl⟩
        have e : Int.tdiv ((m / 256 ^ j : Nat) : Int) 256 = ((m / 256 ^ (j + 1) : Nat) : Int) := by
          rw [Nat.pow_succ, ← Nat.div_div_eq_div_mul]; rfl
        have hle := Nat.div_le_self m (256 ^ (j + 1))
        have e2 : IntKind.wrap .u8 (Int.tmod ((m / 256 ^ j : Nat) : Int) 256) = ((m / 256 ^ j % 256 : Nat) : Int) := by
          rw [show Int.tmod ((m / 256 ^ j : Nat) : Int) 256 = ((m / 256 ^ j % 256 : Nat) : Int) from rfl, wrapU8, Nat.mod_mod]
        simp only [stepDq54_n0, stepq54_n0, dec_true (show (j : Int) < (k : Int) by omega), cond_true, e, e2, wrapN (show m / 256 ^ (j + 1) ≤ 9223372036854775807 by omega), wrap64_nat (show j < 9223372036854775807 by omega)]
        have e3 : bytesOf [((m / 256 ^ j % 256 : Nat) : Int)] = [UInt8.ofNat (m / 256 ^ j % 256)] := rfl
        rw [e3, List.length_singleton, be_length, ble_true (by omega), cond_true, be]
        rfl
      · right
        obtain rfl : j = k := by omega
        simp only [stepDq54_n0, stepq54_n0, dec_false (show ¬ (j : Int) < (j : Int) by omega), cond_false]
        exact ⟨_, rfl, rfl⟩
    obtain ⟨y, hy, rfl⟩ := key
    have hy' : loopD (stepDq54_n0 (s, (k : Int))) FUEL ((m : Int), [], 0) = _ := hy
    rw [hy']
    simp only [bindO_pure, be_length]
    rw [ble_true (by omega), cond_true]
  · rw [if_neg hf, dec_false hf]
    rfl
end Go.Proofs.R7J
namespace Go.Proofs.R7J
open Go Go.AE Go.Plain
theorem Reader_Bytes_eq (n : Nat) (r : List UInt8) (h : n ≤ r.length) (hl : r.length ≤ 1000000000000) : fnDq17 ((n : Int), r, 0) = some (r.take n, r.drop n, 0) := by
  simp only [fnDq17, fnq17, nodeDq17_n0, nodeq17_n0]
  rw [dec_false (show ¬ (n : Int) < 0 by omega), cond_false, dec_false (show ¬ (n : Int) > (r.length : Int) by omega), cond_false]
  simp only [bindO_pure]
  rw [inR_true (show (0 : Int) ≤ (n : Int) ∧ (n : Int) < ((r.length + 1 : Nat) : Int) by omega)]
  rfl
theorem or_byte (n c : Nat) (hc : c < 256) : (n * 256) ||| c = 256 * n + c := by
  have := Nat.shiftLeft_add_eq_or_of_lt (i := 8) (b := c) (by omega) n
  rw [Nat.shiftLeft_eq] at this
  simp only [show (2 : Nat) ^ 8 = 256 from rfl] at this
  omega
theorem Reader_Num_eq (k : Nat) (r : List UInt8) (hk : 1 ≤ k ∧ k ≤ 7) (h : k ≤ r.length) (hl : r.length ≤ 1000000000000) : fnDq18 ((k : Int), r, 0) = some (((num (r.take k) : Nat) : Int), r.drop k, 0) := by
  simp only [fnDq18, fnq18, fnDq20, fnq20, nodeDq20_n0, nodeq20_n0, bindO_pure]
  rw [dec_true (show (k : Int) ≥ 1 by omega), dec_true (show (k : Int) ≤ 7 by omega), cond_true]
  simp only [bindO_pure, Bool.not_true, cond_false, Reader_Bytes_eq k r h hl, unP]
  have hlen : (r.take k).length = k := by rw [List.length_take]; omega
  have hil : (intsOf (r.take k)).length = k := by rw [intsOf, List.length_map, hlen]
  rw [ble_true (by omega), cond_true, hil]
  have key : ∃ y, loopD (stepDq18_n0 ((k : Int), r.drop k, 0, intsOf (r.take k))) FUEL ((0 : Int), ((0 : Nat) : Int)) = some y ∧ y = ((num (r.take k) : Nat) : Int) := by
    refine loopD_inv (fun j v => j ≤ k ∧ v = (((num (r.take j) : Nat) : Int), (j : Int))) k _ ?_ ⟨by omega, by simp [num]⟩ (by omega)
    rintro j v ⟨hj, rfl⟩
    by_cases hlt : j < k
    · left
      refine ⟨_, ?_, hlt, by omega, rfl⟩
      have hget : r[j]? = some r[j] := List.getElem?_eq_getElem (by omega)
      generalize r[j] = c at hget
      have hi : (intsOf (r.take k))[j]? = some ((c.toNat : Nat) : Int) := by
        rw [intsOf, List.getElem?_map, List.getElem?_take_of_lt hlt, hget]; rfl
      have hn := num_lt (r.take j)
      have hp : 256 ^ (r.take j).length ≤ 256 ^ 6 := Nat.pow_le_pow_right (by omega) (by rw [List.length_take]; omega)
      have hc : c.toNat < 256 := c.toNat_lt
      have e1 : IntKind.wrap .i64 (((num (r.take j) : Nat) : Int) * 256) = ((num (r.take j) * 256 : Nat) : Int) := by rw [wrap64 (by omega) (by omega)]; omega
      have e2 : num (r.take (j + 1)) = 256 * num (r.take j) + c.toNat := by rw [List.take_add_one, hget]; exact num_snoc _ _
      simp only [stepDq18_n0, stepq18_n0, dec_true (show (j : Int) < (k : Int) by omega), cond_true, hil, inR_true (show (0 : Int) ≤ (j : Int) ∧ (j : Int) < (k : Int) by omega), Int.toNat_natCast, hi, bindO_pure, e1,
        wrapN (m := c.toNat) (show c.toNat ≤ 9223372036854775807 by omega), nat64 (m := num (r.take j) * 256) (show num (r.take j) * 256 < 9223372036854775808 by omega), nat64 (m := c.toNat) (show c.toNat < 9223372036854775808 by omega), or_byte _ _ hc,
        wrapN (m := 256 * num (r.take j) + c.toNat) (show 256 * num (r.take j) + c.toNat ≤ 9223372036854775807 by omega), wrap64_nat (show j < 9223372036854775807 by omega), e2]
    · right
      obtain rfl : j = k := by omega
      simp only [stepDq18_n0, stepq18_n0, dec_false (show ¬ (j : Int) < (j : Int) by omega), cond_false]
      exact ⟨_, rfl, rfl⟩
  obtain ⟨y, hy, rfl⟩ := key
  have hy' : loopD (stepDq18_n0 ((k : Int), r.drop k, 0, intsOf (r.take k))) FUEL (0, 0) = _ := hy
  rw [hy']
  rfl
end Go.Proofs.R7J
namespace Go.Proofs.R7J
open Go Go.AE Go.Plain
def fL (L : List Bool) (i : Nat) : Bool := L.getD i false
def pk (L : List Bool) : List Int := pkF ((L.length + 7) / 8) (fL L)
theorem pk_len (L : List Bool) : (pk L).length = (L.length + 7) / 8 := pkF_len _ _
def clamp (a : Int) : Nat := if 1000 < a then 1000 else a.toNat
theorem clamp_le (a : Int) : clamp a ≤ 1000 := by unfold clamp; split <;> omega
theorem clamp_is (a : Int) : (if (1000 : Int) < (if (0 : Int) > a then (0 : Int) else a) then (1000 : Int) else (if (0 : Int) > a then (0 : Int) else a)) = (clamp a : Int) := by
  unfold clamp
  by_cases h : (0 : Int) > a
  · rw [if_pos h, if_neg (by omega), if_neg (by omega)]; omega
  · rw [if_neg h]
    by_cases h2 : (1000 : Int) < a
    · rw [if_pos h2, if_pos h2]; rfl
    · rw [if_neg h2, if_neg h2]; omega
theorem mplace_eq (i : Nat) (h : i ≤ 1000) : fnDq50 (i : Int) = some (((i / 8 : Nat) : Int), ((2 ^ (i % 8) : Nat) : Int)) := by
  have e1 : Int.tmod (i : Int) 8 = ((i % 8 : Nat) : Int) := by rw [Int.tmod_eq_emod_of_nonneg (by omega)]; omega
  have e2 : Int.tdiv (i : Int) 8 = ((i / 8 : Nat) : Int) := by rw [Int.tdiv_eq_ediv_of_nonneg (by omega)]; omega
  simp only [fnDq50, fnq50, e1, e2, dec_false (show ¬ ((i % 8 : Nat) : Int) < 0 by omega), cond_false, Int.toNat_natCast, wrap64_self (show -9223372036854775808 ≤ ((i / 8 : Nat) : Int) ∧ ((i / 8 : Nat) : Int) ≤ 9223372036854775807 by omega)]
  have hlt : i % 8 < 8 := Nat.mod_lt _ (by omega)
  generalize i % 8 = j at hlt
  have : IntKind.wrap .u8 (1 * 2 ^ min j 8) = ((2 ^ j : Nat) : Int) := by
    rcases j with _|_|_|_|_|_|_|_|j
    all_goals first | rfl | omega
  rw [this]
theorem may_eq (i n : Int) (b : List Int) : fnDq48 (i, n, b) = some (decide (0 ≤ i ∧ i < n)) := by
  simp only [fnDq48, fnq48, nodeDq48_n0, nodeq48_n0]
  by_cases h0 : i ≥ 0
  · rw [dec_true h0, cond_true]
    exact congrArg some (decide_eq_decide.mpr (by omega))
  · rw [dec_false h0, dec_false (show ¬ (0 ≤ i ∧ i < n) by omega)]; rfl
theorem u8_of (x : Nat) (h : x < 256) : IntKind.wrap .u8 (x : Int) = (x : Int) := by
  have : ∀ y : Fin 256, IntKind.wrap .u8 (y.val : Int) = (y.val : Int) := by decide +kernel
  exact this ⟨x, h⟩
theorem tn (x : Nat) (h : x < 256) : ((x : Int) % 256).toNat = x := by omega
theorem pow_lt (i : Nat) : 2 ^ (i % 8) < 256 := Nat.pow_lt_pow_right (a := 2) (by omega) (show i % 8 < 8 by omega)
theorem has_eq (i : Int) (n : Nat) (m : Nat) (f : Nat → Bool) (hn : n ≤ 1000) (hm : m = (n + 7) / 8) : fnDq46 (i, (n : Int), pkF m f) = some (decide (0 ≤ i ∧ i < (n : Int)) && f i.toNat) := by
  simp only [fnDq46, fnq46, may_eq, bindO_pure]
  by_cases h : 0 ≤ i ∧ i < (n : Int)
  · obtain ⟨k, rfl⟩ : ∃ k : Nat, i = (k : Int) := ⟨i.toNat, by omega⟩
    have hk : k / 8 < m := by omega
    simp only [dec_true h, Bool.not_true, cond_false, mplace_eq k (by omega), bindO_pure, unP, Int.toNat_natCast, Bool.true_and]
    rw [inR_true (by rw [pkF_len]; omega), cond_true, pkF_at m f hk, bindO_pure, tn _ (byteAt_lt f _), tn _ (pow_lt k), byteAt_and]
    cases hf : f k
    · rfl
    · rw [if_pos rfl, u8_of _ (pow_lt k)]
      have : 0 < 2 ^ (k % 8) := Nat.two_pow_pos _
      rw [ibne, dec_false (by omega)]; rfl
  · rw [dec_false h]; rfl
theorem add_eq (i : Int) (n : Nat) (m : Nat) (f : Nat → Bool) (hn : n ≤ 1000) (hm : m = (n + 7) / 8) :
    ∃ r, fnDq43 (i, (n : Int), pkF m f) = some (r, if 0 ≤ i ∧ i < (n : Int) then pkF m (fun j => decide (j = i.toNat) || f j) else pkF m f) := by
  simp only [fnDq43, fnq43, fnDq49, fnq49, nodeDq49_n0, nodeq49_n0, may_eq, has_eq i n m f hn hm, bindO_pure]
  by_cases h : 0 ≤ i ∧ i < (n : Int)
  · obtain ⟨k, rfl⟩ : ∃ k : Nat, i = (k : Int) := ⟨i.toNat, by omega⟩
    have hk : k / 8 < m := by omega
    rw [if_pos h]
    simp only [dec_true h, Bool.not_true, cond_false, Int.toNat_natCast, Bool.true_and, bindO_pure]
    cases hf : f k
    · have e : pkF m (fun j => decide (j = k) || f j) = (pkF m f).set (k / 8) ((byteAt f (k / 8) ||| 2 ^ (k % 8) : Nat) : Int) := (pkF_set m f k).symm
      have hx : byteAt f (k / 8) ^^^ 2 ^ (k % 8) < 256 := Nat.xor_lt_two_pow (n := 8) (byteAt_lt f _) (pow_lt k)
      rw [byteAt_xor f k hf] at hx
      simp only [show (false == true) = false from rfl, cond_false, mplace_eq k (by omega), bindO_pure, unP, Int.toNat_natCast, inR_true (show (0 : Int) ≤ ((k / 8 : Nat) : Int) ∧ ((k / 8 : Nat) : Int) < (((pkF m f).length : Nat) : Int) by rw [pkF_len]; omega), cond_true, pkF_at m f hk,
        tn _ (byteAt_lt f _), tn _ (pow_lt k), u8_of _ hx, byteAt_xor f k hf, e]
      exact ⟨_, rfl⟩
    · have e : pkF m (fun j => decide (j = k) || f j) = pkF m f := pkF_ext (fun j _ => by
        by_cases q : j = k
        · subst q; rw [hf, decide_eq_true rfl]; rfl
        · rw [decide_eq_false q]; rfl)
      rw [e]
      exact ⟨_, rfl⟩
  · rw [if_neg h, dec_false h]
    exact ⟨_, rfl⟩
theorem mnew_eq (a : Int) : fnDq41 a = some ((clamp a : Int), pkF ((clamp a + 7) / 8) (fun _ => false)) := by
  have hc := clamp_le a
  have e : IntKind.wrap IntKind.i64 (Int.tdiv (IntKind.wrap IntKind.i64 (IntKind.wrap IntKind.i64 ((clamp a : Int) + 8) - 1)) 8) = (((clamp a + 7) / 8 : Nat) : Int) := by
    rw [wrap64_self (show -9223372036854775808 ≤ (clamp a : Int) + 8 ∧ (clamp a : Int) + 8 ≤ 9223372036854775807 by omega), wrap64_self (show -9223372036854775808 ≤ (clamp a : Int) + 8 - 1 ∧ (clamp a : Int) + 8 - 1 ≤ 9223372036854775807 by omega),
      Int.tdiv_eq_ediv_of_nonneg (by omega), wrap64_self (by omega)]
    omega
  simp only [fnDq41, fnq41, clamp_is, e]
  rw [dec_true (show (0 : Int) ≤ (((clamp a + 7) / 8 : Nat) : Int) by omega), dec_true (Int.le_refl _), dec_true (show (1 : Int) * (((clamp a + 7) / 8 : Nat) : Int) ≤ 281474976710656 by omega),
    dec_true (show (((clamp a + 7) / 8 : Nat) : Int) ≤ 9223372036854775807 by omega), Int.toNat_natCast, pkF_none]
  rfl
theorem rnew_eq (a : Int) : fnDq57 a = some (List.replicate (clamp a) false) := by
  have hc := clamp_le a
  simp only [fnDq57, fnq57, clamp_is]
  rw [dec_true (show (0 : Int) ≤ (clamp a : Int) by omega), dec_true (Int.le_refl _), dec_true (show (1 : Int) * (clamp a : Int) ≤ 281474976710656 by omega),
    dec_true (show (clamp a : Int) ≤ 9223372036854775807 by omega), Int.toNat_natCast]
  rfl
def putL (L : List Bool) (i : Int) : List Bool := if 0 ≤ i ∧ i < (L.length : Int) then L.set i.toNat true else L
theorem putL_len (L : List Bool) (i : Int) : (putL L i).length = L.length := by unfold putL; split <;> simp
theorem rput_eq (i : Int) (L : List Bool) (hL : L.length ≤ 1000) : ∃ y, fnDq60 (i, true, L) = some y ∧ ((y = .inl () ∧ putL L i = L) ∨ y = .inr (putL L i)) := by
  simp only [fnDq60, fnq60, nodeDq60_n0, nodeq60_n0]
  by_cases h : 0 ≤ i ∧ i < (L.length : Int)
  · obtain ⟨k, rfl⟩ : ∃ k : Nat, i = (k : Int) := ⟨i.toNat, by omega⟩
    have hk : k < L.length := by omega
    rw [dec_false (show ¬ (k : Int) < 0 by omega), dec_false (show ¬ (k : Int) ≥ (L.length : Int) by omega), cond_false, cond_false, inR_true h, cond_true, Int.toNat_natCast, List.getElem?_eq_getElem hk]
    simp only [bindO_pure, cond_true]
    have e : putL L (k : Int) = L.set k true := by rw [putL, if_pos h, Int.toNat_natCast]
    cases hx : L[k]
    · rw [show (false == true) = false from rfl, cond_false, ble_true (by omega)]
      exact ⟨_, rfl, .inr (by rw [e])⟩
    · refine ⟨_, rfl, .inl ⟨rfl, ?_⟩⟩
      rw [e]
      apply List.ext_getElem
      · rw [List.length_set]
      · intro j h1 h2
        rw [List.getElem_set]
        by_cases q : k = j
        · subst q; rw [if_pos rfl, hx]
        · rw [if_neg q]
  · have e : putL L i = L := by rw [putL, if_neg h]
    refine ⟨.inl (), ?_, .inl ⟨rfl, e⟩⟩
    by_cases h0 : i < 0
    · rw [dec_true h0]; rfl
    · rw [dec_false h0, dec_true (show i ≥ (L.length : Int) by omega)]; rfl
theorem fL_put (L : List Bool) (i : Int) (h : 0 ≤ i ∧ i < (L.length : Int)) (j : Nat) : fL (putL L i) j = (decide (j = i.toNat) || fL L j) := by
  unfold fL putL
  rw [if_pos h, List.getD_eq_getElem?_getD, List.getD_eq_getElem?_getD, List.getElem?_set]
  by_cases q : i.toNat = j
  · subst q
    rw [if_pos rfl, if_pos (by omega), decide_eq_true rfl]; rfl
  · rw [if_neg q, decide_eq_false (fun e => q e.symm), Bool.false_or]
theorem pk_put (L : List Bool) (i : Int) : pk (putL L i) = if 0 ≤ i ∧ i < (L.length : Int) then pkF ((L.length + 7) / 8) (fun j => decide (j = i.toNat) || fL L j) else pk L := by
  by_cases h : 0 ≤ i ∧ i < (L.length : Int)
  · rw [if_pos h, pk, putL_len]
    exact pkF_ext (fun j _ => fL_put L i h j)
  · rw [if_neg h, putL, if_neg h]
theorem adds_eq (a : Int) (l : List Int) (s : List UInt8) (n : Nat) (hn : n ≤ 1000) (hl : l.length ≤ 100) :
    ∃ L : List Bool, L.length = n ∧ loopD (stepDq24_n1 (a, l, s, (n : Int))) FUEL (0, pkF ((n + 7) / 8) (fun _ => false), List.replicate n false) = some (pk L, L) := by
  have h0 : pkF ((n + 7) / 8) (fun _ => false) = pk (List.replicate n false) := by
    rw [pk, List.length_replicate]
    exact pkF_ext (fun j _ => by
      unfold fL
      rw [List.getD_eq_getElem?_getD, List.getElem?_replicate]
      by_cases q : j < n
      · rw [if_pos q]; rfl
      · rw [if_neg q]; rfl)
  rw [h0]
  obtain ⟨y, hy, L, rfl, hL⟩ := loopD_inv (f := stepDq24_n1 (a, l, s, (n : Int))) (fun j v => ∃ L : List Bool, v = ((j : Int), pk L, L) ∧ L.length = n ∧ j ≤ l.length) l.length
    (fun y => ∃ L : List Bool, y = (pk L, L) ∧ L.length = n)
    (by
      rintro j v ⟨L, rfl, hL, hj⟩
      by_cases hlt : j < l.length
      · have hx : nth l (j : Int) = some l[j] := nth_of (List.getElem?_eq_getElem hlt)
        generalize hv : l[j] = x at hx
        obtain ⟨r, hr⟩ := add_eq x n ((n + 7) / 8) (fL L) hn rfl
        have e : (if 0 ≤ x ∧ x < (n : Int) then pkF ((n + 7) / 8) (fun j => decide (j = x.toNat) || fL L j) else pkF ((n + 7) / 8) (fL L)) = pk (putL L x) := by
          rw [pk_put, hL]
          rw [show pk L = pkF ((n + 7) / 8) (fL L) by rw [pk, hL]]
        rw [e] at hr
        have hp : pk L = pkF ((n + 7) / 8) (fL L) := by rw [pk, hL]
        obtain ⟨y, hy, hq⟩ := rput_eq x L (by omega)
        refine .inl ⟨(((j + 1 : Nat) : Int), pk (putL L x), putL L x), ?_, hlt, putL L x, rfl, by rw [putL_len, hL], by omega⟩
        simp only [stepDq24_n1, stepq24_n1, dec_true (show (j : Int) < (l.length : Int) by omega), cond_true, hx, bindO_pure, hp, hr, unP, hy, wrap64_nat (show j < 9223372036854775807 by omega)]
        rcases hq with ⟨rfl, hq⟩ | rfl
        · simp only [Sum.elim_inl, hq]
        · simp only [Sum.elim_inr]
      · obtain rfl : j = l.length := by omega
        refine .inr ⟨(pk L, L), ?_, L, rfl, hL⟩
        simp only [stepDq24_n1, stepq24_n1, dec_false (show ¬ (l.length : Int) < (l.length : Int) by omega), cond_false])
    (v := (0, pk (List.replicate n false), List.replicate n false)) ⟨_, rfl, List.length_replicate, by omega⟩ (by omega)
  exact ⟨L, hL, hy⟩
end Go.Proofs.R7J
namespace Go.Proofs.R7J
open Go Go.AE Go.Plain
theorem bit_of (j : Nat) (h : j < 8) : IntKind.wrap .u8 (1 * 2 ^ min j 8) = ((2 ^ j : Nat) : Int) := by
  rcases j with _|_|_|_|_|_|_|_|j
  all_goals first | rfl | omega
theorem rbytes_eq (L : List Bool) (hL : L.length ≤ 1000) : fnDq59 L = some (bytesOf (pk L)) := by
  have e : IntKind.wrap IntKind.i64 (Int.tdiv (IntKind.wrap IntKind.i64 ((L.length : Int) + 7)) 8) = (((L.length + 7) / 8 : Nat) : Int) := by
    rw [wrap64_self (show -9223372036854775808 ≤ (L.length : Int) + 7 ∧ (L.length : Int) + 7 ≤ 9223372036854775807 by omega),
      Int.tdiv_eq_ediv_of_nonneg (by omega), wrap64_self (by omega)]
    omega
  obtain ⟨y, hy, rfl⟩ := loopD_inv (f := stepDq59_n0 L) (fun j v => v = ((j : Int), pkF ((L.length + 7) / 8) (fun i => decide (i < j) && fL L i)) ∧ j ≤ L.length) L.length
    (fun y => y = pk L)
    (by
      rintro j v ⟨rfl, hj⟩
      by_cases hlt : j < L.length
      · refine .inl ⟨(((j + 1 : Nat) : Int), pkF ((L.length + 7) / 8) (fun i => decide (i < j + 1) && fL L i)), ?_, hlt, rfl, by omega⟩
        have e1 : Int.tmod (j : Int) 8 = ((j % 8 : Nat) : Int) := by rw [Int.tmod_eq_emod_of_nonneg (by omega)]; omega
        have e2 : IntKind.wrap IntKind.i64 (Int.tdiv (j : Int) 8) = ((j / 8 : Nat) : Int) := by rw [Int.tdiv_eq_ediv_of_nonneg (by omega), wrap64_self (by omega)]; omega
        have hk : j / 8 < (L.length + 7) / 8 := by omega
        have hf : fL L j = L[j] := by unfold fL; rw [List.getD_eq_getElem?_getD, List.getElem?_eq_getElem hlt]; rfl
        have hx : ∀ f : Nat → Bool, byteAt f (j / 8) ||| 2 ^ (j % 8) < 256 := fun f => Nat.or_lt_two_pow (n := 8) (byteAt_lt f _) (pow_lt j)
        simp only [stepDq59_n0, stepq59_n0, nodeDq59_n1, nodeq59_n1, dec_true (show (j : Int) < (L.length : Int) by omega), cond_true, inR_true (show (0 : Int) ≤ (j : Int) ∧ (j : Int) < (L.length : Int) by omega),
          Int.toNat_natCast, List.getElem?_eq_getElem hlt, bindO_pure]
        cases hb : L[j]
        · simp only [cond_false, bindO_pure, wrap64_nat (show j < 9223372036854775807 by omega)]
          rw [pkF_ext (m := (L.length + 7) / 8) (f := fun i => decide (i < j) && fL L i) (g := fun i => decide (i < j + 1) && fL L i) (fun i _ => by
            by_cases q : i = j
            · subst q; rw [hf, hb, Bool.and_false, Bool.and_false]
            · show (decide (i < j) && fL L i) = (decide (i < j + 1) && fL L i)
              rw [show decide (i < j) = decide (i < j + 1) from decide_eq_decide.mpr (by omega)])]
        · simp only [cond_true, e1, e2, Int.toNat_natCast, inR_true (show (0 : Int) ≤ ((j / 8 : Nat) : Int) ∧ ((j / 8 : Nat) : Int) < (((pkF ((L.length + 7) / 8) (fun i => decide (i < j) && fL L i)).length : Nat) : Int) by rw [pkF_len]; omega),
            pkF_at _ _ hk, bindO_pure, dec_false (show ¬ ((j % 8 : Nat) : Int) < 0 by omega), cond_false, bit_of (j % 8) (Nat.mod_lt _ (by omega)), tn _ (byteAt_lt _ _), tn _ (pow_lt j), u8_of _ (hx _), pkF_set, wrap64_nat (show j < 9223372036854775807 by omega)]
          rw [pkF_ext (m := (L.length + 7) / 8) (f := fun i => decide (i = j) || decide (i < j) && fL L i) (g := fun i => decide (i < j + 1) && fL L i) (fun i _ => by
            by_cases q : i = j
            · subst q; rw [hf, hb, decide_eq_true rfl, decide_eq_true (show i < i + 1 by omega)]; rfl
            · show (decide (i = j) || decide (i < j) && fL L i) = (decide (i < j + 1) && fL L i)
              rw [decide_eq_false q, Bool.false_or, show decide (i < j) = decide (i < j + 1) from decide_eq_decide.mpr (by omega)])]
      · obtain rfl : j = L.length := by omega
        refine .inr ⟨pk L, ?_, rfl⟩
        simp only [stepDq59_n0, stepq59_n0, dec_false (show ¬ (L.length : Int) < (L.length : Int) by omega), cond_false]
        rw [pk, pkF_ext (f := fun i => decide (i < L.length) && fL L i) (g := fL L) (fun i _ => by
          by_cases q : i < L.length
          · show (decide (i < L.length) && fL L i) = fL L i
            rw [decide_eq_true q, Bool.true_and]
          · show (decide (i < L.length) && fL L i) = fL L i
            have : fL L i = false := by unfold fL; rw [List.getD_eq_getElem?_getD, List.getElem?_eq_none (by omega)]; rfl
            rw [this, Bool.and_false])])
    (v := (0, pkF ((L.length + 7) / 8) (fun _ => false))) ⟨by rw [pkF_ext (f := fun i => decide (i < 0) && fL L i) (g := fun _ => false) (fun i _ => by show (decide (i < 0) && fL L i) = false; rw [decide_eq_false (by omega), Bool.false_and])]; rfl, by omega⟩ (by omega)
  simp only [fnDq59, fnq59, e]
  rw [dec_true (show (0 : Int) ≤ (((L.length + 7) / 8 : Nat) : Int) by omega), dec_true (Int.le_refl _), dec_true (show (1 : Int) * (((L.length + 7) / 8 : Nat) : Int) ≤ 281474976710656 by omega),
    dec_true (show (((L.length + 7) / 8 : Nat) : Int) ≤ 9223372036854775807 by omega), Int.toNat_natCast, ← pkF_none, hy]
  rfl
def bodyJ (L : List Bool) : List UInt8 := putN [74] (L.length : Int) 1 ++ bytesOf (pk L)
def putJ (L : List Bool) : List UInt8 × Int := if L.length ≤ 24 then (padTo (bodyJ L ++ tail (bodyJ L)), 0) else ([], 3)
theorem bodyJ_le (L : List Bool) (h : L.length ≤ 24) : (bodyJ L).length ≤ 5 := by
  have h1 := putN_len [74] (L.length : Int) 1
  simp only [List.length_cons, List.length_nil] at h1
  unfold bodyJ bytesOf
  rw [List.length_append, List.length_map, pk_len]; omega
theorem jput_eq (L : List Bool) : fnDq22 ((L.length : Int), pk L) = some (putJ L) := by
  simp only [fnDq22, fnq22, nodeDq22_n0, nodeq22_n0, fnDq47, fnq47, bindO_pure]
  unfold putJ
  by_cases h : L.length ≤ 24
  · have hb := bodyJ_le L h
    have hf : fnDq16 ([74], (L.length : Int), 1) = some (putN [74] (L.length : Int) 1) := field_Put_eq [74] (L.length : Int) 1 (by omega) (by simp)
    have hl : (putN [74] (L.length : Int) 1).length + (bytesOf (pk L)).length = (bodyJ L).length := by rw [bodyJ, List.length_append]
    rw [if_pos h, dec_false (show ¬ (L.length : Int) > 24 by omega), cond_false, hf]
    simp only [bindO_pure, fnDq44, fnq44, hl, ble_true (show (bodyJ L).length ≤ 9223372036854775807 by omega), cond_true]
    rw [show putN [74] (L.length : Int) 1 ++ bytesOf (pk L) = bodyJ L from rfl]
    simp only [cyclic_Tail_eq _ (show (bodyJ L).length ≤ 1000000000000 by omega), bindO_pure, tail_length, ble_true (show (bodyJ L).length + 4 ≤ 9223372036854775807 by omega), cond_true,
      region_Pad_eq _ (show (bodyJ L ++ tail (bodyJ L)).length ≤ 1000000000000 by rw [List.length_append, tail_length]; omega)]
  · rw [if_neg h, dec_true (show (L.length : Int) > 24 by omega)]; rfl
theorem rjput_eq (L : List Bool) (hL : L.length ≤ 1000) : fnDq67 L = some (putJ L) := by
  simp only [fnDq67, fnq67]
  unfold putJ
  by_cases h : L.length ≤ 24
  · have hb := bodyJ_le L h
    have hf : fnDq54 ([74], (L.length : Int), 1) = some (putN [74] (L.length : Int) 1) := ref02_Put_eq [74] (L.length : Int) 1 (by omega) (by omega) (by simp)
    have hl : (putN [74] (L.length : Int) 1).length + (bytesOf (pk L)).length = (bodyJ L).length := by rw [bodyJ, List.length_append]
    rw [if_pos h, dec_false (show ¬ (L.length : Int) > 24 by omega), cond_false, hf]
    simp only [bindO_pure, rbytes_eq L hL, hl, ble_true (show (bodyJ L).length ≤ 9223372036854775807 by omega), cond_true]
    rw [show putN [74] (L.length : Int) 1 ++ bytesOf (pk L) = bodyJ L from rfl]
    simp only [ref03_Tail_eq _ (show (bodyJ L).length ≤ 1000000000000 by omega), bindO_pure, tail_length, ble_true (show (bodyJ L).length + 4 ≤ 9223372036854775807 by omega), cond_true,
      ref09_Pad_eq _ (show (bodyJ L ++ tail (bodyJ L)).length ≤ 1000000000000 by rw [List.length_append, tail_length]; omega)]
  · rw [if_neg h, dec_true (show (L.length : Int) > 24 by omega)]; rfl
def gT (t : List UInt8) (i : Nat) : Bool := ((t.getD (i / 8) 0).toNat).testBit (i % 8)
theorem intsOf_pk (t : List UInt8) : intsOf t = pkF t.length (gT t) := by
  apply List.ext_getElem
  · rw [pkF_len]; simp [intsOf]
  · intro k h1 h2
    rw [pkF_len] at h2
    simp only [intsOf, pkF, List.getElem_map, List.getElem_range]
    have : (t[k]).toNat = byteAt (gT t) k := by
      apply Nat.eq_of_testBit_eq
      intro j
      rw [byteAt_test]
      by_cases hj : j < 8
      · unfold gT
        rw [decide_eq_true hj, Bool.true_and, show (8 * k + j) / 8 = k by omega, show (8 * k + j) % 8 = j by omega, List.getD_eq_getElem?_getD, List.getElem?_eq_getElem h2]; rfl
      · rw [decide_eq_false hj, Bool.false_and]
        have hlt : (t[k]).toNat < 2 ^ 8 := (t[k]).toNat_lt
        exact Nat.testBit_lt_two_pow (Nat.lt_of_lt_of_le hlt (Nat.pow_le_pow_right (by omega) (by omega)))
    rw [this]
def listT (t : List UInt8) (m : Nat) : List Bool := (List.range m).map (gT t)
theorem listT_len (t : List UInt8) (m : Nat) : (listT t m).length = m := by simp [listT]
abbrev Clean (t : List UInt8) (m : Nat) : Prop := ∀ i, i < 8 * t.length → gT t i = true → i < m
theorem pk_listT (t : List UInt8) (m : Nat) (ht : t.length = (m + 7) / 8) (h : Clean t m) : pk (listT t m) = intsOf t := by
  rw [intsOf_pk, pk, listT_len, ht]
  exact pkF_ext (fun i hi => by
    unfold fL listT
    rw [List.getD_eq_getElem?_getD]
    by_cases q : i < m
    · simp [q]
    · rw [List.getElem?_eq_none (by simp; omega)]
      cases hg : gT t i
      · rfl
      · exact absurd (h i (by omega) hg) q)
theorem rread_eq (t : List UInt8) (m : Nat) (hm : m ≤ 24) (ht : t.length = (m + 7) / 8) :
    (Clean t m ∧ fnDq58 ((m : Int), t) = some (.inr (listT t m))) ∨ (¬ Clean t m ∧ fnDq58 ((m : Int), t) = some (.inl 4)) := by
  have hc : clamp (m : Int) = m := by unfold clamp; rw [if_neg (by omega)]; omega
  have e : IntKind.wrap IntKind.i64 (Int.tdiv (IntKind.wrap IntKind.i64 ((m : Int) + 7)) 8) = (((m + 7) / 8 : Nat) : Int) := by
    rw [wrap64_self (show -9223372036854775808 ≤ (m : Int) + 7 ∧ (m : Int) + 7 ≤ 9223372036854775807 by omega),
      Int.tdiv_eq_ediv_of_nonneg (by omega), wrap64_self (by omega)]
    omega
  have e8 : IntKind.wrap IntKind.i64 (8 * (((m + 7) / 8 : Nat) : Int)) = ((8 * t.length : Nat) : Int) := by rw [wrap64_self (by omega)]; omega
  obtain ⟨y, hy, hq⟩ := loopD_inv (f := stepDq58_n0 (t, (((m + 7) / 8 : Nat) : Int))) (fun j v => ∃ L : List Bool, v = ((j : Int), L) ∧ L.length = m ∧ j ≤ 8 * t.length ∧ (∀ i, i < m → L[i]? = some (decide (i < j) && gT t i)) ∧ (∀ i, i < j → gT t i = true → i < m)) (8 * t.length)
    (fun y => (Clean t m ∧ y = .inr (listT t m)) ∨ (¬ Clean t m ∧ y = .inl ()))
    (by
      rintro j v ⟨L, rfl, hL, hj, hin, hcl⟩
      by_cases hlt : j < 8 * t.length
      · have e1 : Int.tmod (j : Int) 8 = ((j % 8 : Nat) : Int) := by rw [Int.tmod_eq_emod_of_nonneg (by omega)]; omega
        have e2 : IntKind.wrap IntKind.i64 (Int.tdiv (j : Int) 8) = ((j / 8 : Nat) : Int) := by rw [Int.tdiv_eq_ediv_of_nonneg (by omega), wrap64_self (by omega)]; omega
        have hk : j / 8 < t.length := by omega
        have hx : nth t ((j / 8 : Nat) : Int) = some t[j / 8] := nth_of (List.getElem?_eq_getElem hk)
        have hg : gT t j = ((t[j / 8]).toNat).testBit (j % 8) := by unfold gT; rw [List.getD_eq_getElem?_getD, List.getElem?_eq_getElem hk]; rfl
        have hb : (t[j / 8]).toNat < 256 := (t[j / 8]).toNat_lt
        have hand : (t[j / 8]).toNat &&& 2 ^ (j % 8) = if gT t j then 2 ^ (j % 8) else 0 := by
          rw [hg]
          apply Nat.eq_of_testBit_eq
          intro i
          rw [Nat.testBit_and, Nat.testBit_two_pow]
          by_cases q : j % 8 = i
          · subst q
            cases hh : ((t[j / 8]).toNat).testBit (j % 8)
            · simp
            · simp [Nat.testBit_two_pow]
          · rw [decide_eq_false q, Bool.and_false]
            split
            · rw [Nat.testBit_two_pow, decide_eq_false q]
            · rw [Nat.zero_testBit]
        simp only [stepDq58_n0, stepq58_n0, nodeDq58_n1, nodeq58_n1, e8, dec_true (show (j : Int) < ((8 * t.length : Nat) : Int) by omega), cond_true, e2, hx, bindO_pure, e1, dec_false (show ¬ ((j % 8 : Nat) : Int) < 0 by omega), cond_false,
          Int.toNat_natCast, bit_of (j % 8) (Nat.mod_lt _ (by omega)), tn _ hb, tn _ (pow_lt j), hand]
        cases hgj : gT t j
        · refine .inl ⟨(((j + 1 : Nat) : Int), L), ?_, hlt, L, rfl, hL, by omega, ?_, ?_⟩
          · simp only [Bool.false_eq_true, if_false]
            rw [u8_of 0 (by omega)]
            simp only [ibeq, bindO_pure, wrap64_nat (show j < 9223372036854775807 by omega)]; rfl
          · intro i hi
            rw [hin i hi]
            by_cases q : i = j
            · subst q; rw [hgj, Bool.and_false, Bool.and_false]
            · rw [show decide (i < j) = decide (i < j + 1) from decide_eq_decide.mpr (by omega)]
          · intro i hi hgi
            by_cases q : i = j
            · subst q; rw [hgj] at hgi; cases hgi
            · exact hcl i (by omega) hgi
        · simp only [if_true, u8_of _ (pow_lt j)]
          have hpos : 0 < 2 ^ (j % 8) := Nat.two_pow_pos _
          rw [ibeq, dec_false (show ¬ ((2 ^ (j % 8) : Nat) : Int) = 0 by omega), cond_false]
          by_cases hjm : j < m
          · refine .inl ⟨(((j + 1 : Nat) : Int), L.set j true), ?_, hlt, L.set j true, rfl, by simp [hL], by omega, ?_, ?_⟩
            · rw [dec_false (show ¬ (j : Int) ≥ (L.length : Int) by omega), cond_false, inR_true (by omega), cond_true, hin j hjm]
              simp only [bindO_pure, Sum.elim_inl, wrap64_nat (show j < 9223372036854775807 by omega)]
            · intro i hi
              rw [List.getElem?_set]
              by_cases q : j = i
              · subst q; rw [if_pos rfl, if_pos (by omega), hgj, decide_eq_true (show j < j + 1 by omega)]; rfl
              · rw [if_neg q, hin i hi, show decide (i < j) = decide (i < j + 1) from decide_eq_decide.mpr (by omega)]
            · intro i hi hgi
              by_cases q : i = j
              · subst q; exact hjm
              · exact hcl i (by omega) hgi
          · refine .inr ⟨.inl (), ?_, .inr ⟨fun hcc => hjm (hcc j hlt hgj), rfl⟩⟩
            rw [dec_true (show (j : Int) ≥ (L.length : Int) by omega)]; rfl
      · obtain rfl : j = 8 * t.length := by omega
        refine .inr ⟨.inr L, ?_, .inl ⟨hcl, ?_⟩⟩
        · simp only [stepDq58_n0, stepq58_n0, e8, dec_false (show ¬ ((8 * t.length : Nat) : Int) < ((8 * t.length : Nat) : Int) by omega), cond_false]
        · congr 1
          apply List.ext_getElem?
          intro i
          by_cases q : i < m
          · rw [hin i q, decide_eq_true (show i < 8 * t.length by omega), Bool.true_and]; simp [listT, q]
          · rw [List.getElem?_eq_none (by omega), List.getElem?_eq_none (by rw [listT_len]; omega)])
    (v := (0, List.replicate m false)) ⟨_, rfl, List.length_replicate, by omega, fun i hi => by rw [List.getElem?_replicate, if_pos hi, decide_eq_false (by omega)]; rfl, fun i hi => by omega⟩ (by omega)
  simp only [fnDq58, fnq58, rnew_eq, hc, bindO_pure, List.length_replicate, e]
  rw [dec_false (show ¬ (t.length : Int) < (((m + 7) / 8 : Nat) : Int) by omega), dec_false (show ¬ (t.length : Int) > (((m + 7) / 8 : Nat) : Int) by omega), cond_false, cond_false, hy]
  rcases hq with ⟨h1, rfl⟩ | ⟨h1, rfl⟩
  · exact .inl ⟨h1, rfl⟩
  · exact .inr ⟨h1, rfl⟩
end Go.Proofs.R7J
namespace Go.Proofs.R7J
open Go Go.AE Go.Plain
theorem clean_full (t : List UInt8) (m : Nat) (ht : t.length = (m + 7) / 8) (hr : m % 8 = 0) : Clean t m := fun i hi _ => by omega
theorem clean_last (t : List UInt8) (m : Nat) (ht : t.length = (m + 7) / 8) (hr : 0 < m % 8) (hk : t.length - 1 < t.length) : Clean t m ↔ (t[t.length - 1]).toNat < 2 ^ (m % 8) := by
  have hg : ∀ i, i / 8 = t.length - 1 → gT t i = ((t[t.length - 1]).toNat).testBit (i % 8) := by
    intro i hi
    unfold gT
    rw [List.getD_eq_getElem?_getD, hi, List.getElem?_eq_getElem hk]; rfl
  constructor
  · intro h
    apply Nat.lt_pow_two_of_testBit
    intro j hj
    by_cases h8 : j < 8
    · have e1 : (8 * (t.length - 1) + j) / 8 = t.length - 1 := by omega
      have e2 : (8 * (t.length - 1) + j) % 8 = j := by omega
      have := hg (8 * (t.length - 1) + j) e1
      rw [e2] at this
      cases hb : ((t[t.length - 1]).toNat).testBit j
      · rfl
      · exact absurd (h (8 * (t.length - 1) + j) (by omega) (by rw [this, hb])) (by omega)
    · have hlt : (t[t.length - 1]).toNat < 2 ^ 8 := (t[t.length - 1]).toNat_lt
      exact Nat.testBit_lt_two_pow (Nat.lt_of_lt_of_le hlt (Nat.pow_le_pow_right (by omega) (by omega)))
  · intro h i hi hgi
    by_cases q : i < m
    · exact q
    · have e1 : i / 8 = t.length - 1 := by omega
      rw [hg i e1, Nat.testBit_lt_two_pow (Nat.lt_of_lt_of_le h (Nat.pow_le_pow_right (by omega) (by omega)))] at hgi
      cases hgi
theorem mread_eq (t : List UInt8) (m : Nat) (hm : m ≤ 24) (ht : t.length = (m + 7) / 8) :
    (Clean t m ∧ fnDq42 ((m : Int), t) = some (.inr ((m : Int), intsOf t))) ∨ (¬ Clean t m ∧ fnDq42 ((m : Int), t) = some (.inl 4)) := by
  have hc : clamp (m : Int) = m := by unfold clamp; rw [if_neg (by omega)]; omega
  have hil : (intsOf t).length = t.length := by simp [intsOf]
  have e1 : Int.tmod (m : Int) 8 = ((m % 8 : Nat) : Int) := by rw [Int.tmod_eq_emod_of_nonneg (by omega)]; omega
  have hcat : List.take (pkF ((m + 7) / 8) (fun _ => false)).length (intsOf t) ++ List.drop (intsOf t).length (pkF ((m + 7) / 8) (fun _ => false)) = intsOf t := by
    rw [List.take_of_length_le (by rw [pkF_len]; omega), List.drop_of_length_le (by rw [pkF_len]; omega), List.append_nil]
  simp only [fnDq42, fnq42, mnew_eq, hc, bindO_pure, unP, hcat, e1]
  rw [pkF_len, dec_false (show ¬ (t.length : Int) < (((m + 7) / 8 : Nat) : Int) by omega), dec_false (show ¬ (t.length : Int) > (((m + 7) / 8 : Nat) : Int) by omega), cond_false, cond_false]
  have key : ∃ b, nodeDq42_n0 (((m % 8 : Nat) : Int), (m : Int), intsOf t) = some b ∧ (b = true ↔ ¬ Clean t m) := by
    simp only [nodeDq42_n0, nodeq42_n0, hil]
    by_cases hr : 0 < m % 8
    · have hk : t.length - 1 < t.length := by omega
      have w : IntKind.wrap IntKind.i64 ((t.length : Int) - 1) = ((t.length - 1 : Nat) : Int) := by rw [wrap64_self (by omega)]; omega
      have hat : (intsOf t)[t.length - 1]? = some (((t[t.length - 1]).toNat : Nat) : Int) := by simp [intsOf, hk]
      rw [dec_true (show ((m % 8 : Nat) : Int) > 0 by omega), cond_true, w, inR_true (by omega), cond_true, Int.toNat_natCast, hat, dec_false (show ¬ ((m % 8 : Nat) : Int) < 0 by omega)]
      simp only [bindO_pure, cond_false, Int.toNat_natCast]
      refine ⟨_, rfl, ?_⟩
      rw [clean_last t m ht hr hk, Nat.min_eq_left (by omega), show ((2 : Int) ^ (m % 8)) = ((2 ^ (m % 8) : Nat) : Int) by rw [Int.natCast_pow]; rfl, Int.fdiv_eq_ediv_of_nonneg _ (Int.natCast_nonneg _), ← Int.natCast_ediv]
      rw [bne_iff_ne]
      have hp : 0 < 2 ^ (m % 8) := Nat.two_pow_pos _
      have := Nat.div_eq_zero_iff_lt (x := (t[t.length - 1]).toNat) hp
      omega
    · rw [dec_false (show ¬ ((m % 8 : Nat) : Int) > 0 by omega), cond_false]
      exact ⟨false, rfl, ⟨fun h => by (cases h), fun h => absurd (clean_full t m ht (by omega)) h⟩⟩
  obtain ⟨b, hb, hbc⟩ := key
  rw [hb]
  by_cases hcl : Clean t m
  · have : b = false := by cases b; rfl; exact absurd hcl (hbc.mp rfl)
    subst this
    exact .inl ⟨hcl, rfl⟩
  · have : b = true := hbc.mpr hcl
    subst this
    exact .inr ⟨hcl, rfl⟩
noncomputable def getJ (many : Int) (s : List UInt8) : Int ⊕ List Bool :=
  if s.length ≠ 64 then .inl 12
  else if many < 0 ∨ many > 24 ∨ s.take 1 ≠ [74] ∨ ((num ((s.drop 1).take 1) : Nat) : Int) ≠ many then .inl 4
  else if (s.drop (2 + (many.toNat + 7) / 8)).take 4 ≠ tail (s.take (2 + (many.toNat + 7) / 8)) then .inl 5
  else @ite _ (Clean ((s.drop 2).take ((many.toNat + 7) / 8)) many.toNat ∧ putJ (listT ((s.drop 2).take ((many.toNat + 7) / 8)) many.toNat) = (s, 0)) (Classical.propDecidable _)
    (.inr (listT ((s.drop 2).take ((many.toNat + 7) / 8)) many.toNat)) (.inl 4)
def encJ : Int ⊕ List Bool → Int ⊕ (Int × List Int)
  | .inl e => .inl e
  | .inr L => .inr ((L.length : Int), pk L)
theorem putJ_small (L : List Bool) (h : L.length ≤ 24) : ∃ u, putJ L = (u, 0) := ⟨_, by rw [putJ, if_pos h]⟩
theorem jget_eq (many : Int) (s : List UInt8) (hl : s.length ≤ 3000) : fnDq21 (many, s) = some (encJ (getJ many s)) := by
  unfold getJ
  simp only [fnDq21, fnq21]
  by_cases h64 : s.length = 64
  · have e1 : ((s.length : Int) != 64) = false := by rw [h64]; rfl
    rw [if_neg (fun h => h h64), e1, cond_false]
    have b1 := Reader_Bytes_eq 1 s (by omega) (by omega)
    have n1 := Reader_Num_eq 1 (s.drop 1) (by omega) (by rw [List.length_drop]; omega) (by rw [List.length_drop]; omega)
    simp only [Int.cast_ofNat_Int, List.drop_drop, Nat.reduceAdd] at b1 n1
    simp only [fnDq15, fnq15, bindO_pure, b1, unP, n1, nodeDq21_n0, nodeq21_n0]
    by_cases hJ : s.take 1 = [74]
    · have ej : (s.take 1 == [74]) = true := by rw [hJ]; rfl
      rw [ej, Bool.not_true, cond_false]
      by_cases hN : ((num ((s.drop 1).take 1) : Nat) : Int) = many
      · by_cases h24 : many > 24
        · rw [if_pos (.inr (.inl h24)), hN, bne_self_eq_false, cond_false, dec_true h24]; rfl
        · obtain ⟨m, rfl⟩ : ∃ m : Nat, many = (m : Int) := ⟨_, hN.symm⟩
          have hm : m ≤ 24 := by omega
          have hc : clamp (m : Int) = m := by unfold clamp; rw [if_neg (by omega)]; omega
          rw [if_neg (by rintro (h | h | h | h); omega; omega; exact h hJ; exact h hN), hN, bne_self_eq_false, cond_false, dec_false h24]
          have hbl : (bytesOf (pkF ((m + 7) / 8) (fun _ => false))).length = (m + 7) / 8 := by unfold bytesOf; rw [List.length_map, pkF_len]
          have b2 := Reader_Bytes_eq ((m + 7) / 8) (s.drop 2) (by rw [List.length_drop]; omega) (by rw [List.length_drop]; omega)
          have htl : ((s.drop 2).take ((m + 7) / 8)).length = (m + 7) / 8 := by rw [List.length_take, List.length_drop]; omega
          have w : IntKind.wrap IntKind.i64 (2 + (((m + 7) / 8 : Nat) : Int)) = ((2 + (m + 7) / 8 : Nat) : Int) := by rw [wrap64_self (by omega)]; omega
          have b3 := Reader_Bytes_eq 4 (s.drop (2 + (m + 7) / 8)) (by rw [List.length_drop]; omega) (by rw [List.length_drop]; omega)
          simp only [Int.cast_ofNat_Int] at b3
          simp only [bindO_pure, cond_false, mnew_eq, hc, unP, fnDq44, fnq44, hbl, b2, htl, w, Int.toNat_natCast, List.drop_drop]
          rw [inR_true (by omega), cond_true]
          simp only [cyclic_Tail_eq _ (show (s.take (2 + (m + 7) / 8)).length ≤ 1000000000000 by rw [List.length_take]; omega), bindO_pure, tail_length, Int.cast_ofNat_Int, b3, unP]
          generalize tail (s.take (2 + (m + 7) / 8)) = tl
          by_cases ht : (s.drop (2 + (m + 7) / 8)).take 4 = tl
          · rw [if_neg (fun h => h ht), ht, beq_self_eq_true, Bool.not_true, cond_false]
            generalize (s.drop 2).take ((m + 7) / 8) = t at htl
            rcases mread_eq t m hm htl with ⟨hcl, hr⟩ | ⟨hcl, hr⟩
            · rw [hr]
              have hp := jput_eq (listT t m)
              rw [listT_len, pk_listT t m htl hcl] at hp
              obtain ⟨u, hu⟩ := putJ_small (listT t m) (by rw [listT_len]; exact hm)
              rw [hu] at hp
              simp only [bindO_pure, Sum.elim_inr, unP, hp, nodeDq21_n1v1, nodeq21_n1v1, bne_self_eq_false, cond_false]
              by_cases hus : u = s
              · subst hus
                rw [if_pos ⟨hcl, hu⟩, beq_self_eq_true, Bool.not_true]
                simp only [encJ, listT_len, pk_listT t m htl hcl]; rfl
              · have : (u == s) = false := beq_eq_false_iff_ne.2 hus
                rw [if_neg (fun h => hus (by have := h.2; rw [hu] at this; exact (Prod.mk.inj this).1)), this]
                rfl
            · rw [hr, if_neg (fun h => hcl h.1)]
              rfl
          · have : ((s.drop (2 + (m + 7) / 8)).take 4 == tl) = false := beq_eq_false_iff_ne.2 ht
            rw [if_pos ht, this]
            rfl
      · have : (((num ((s.drop 1).take 1) : Nat) : Int) != many) = true := bne_iff_ne.2 hN
        rw [if_pos (.inr (.inr (.inr hN))), this]; rfl
    · have ej : (s.take 1 == [74]) = false := beq_eq_false_iff_ne.2 hJ
      rw [if_pos (.inr (.inr (.inl hJ))), ej]; rfl
  · have e1 : ((s.length : Int) != 64) = true := by rw [bne_iff_ne]; omega
    rw [if_pos h64, e1]; rfl
end Go.Proofs.R7J
namespace Go.Proofs.R7J
open Go Go.AE Go.Plain
theorem num1 (b : UInt8) : num [b] = b.toNat := by simp [num]
theorem rget_eq (many : Int) (s : List UInt8) (hl : s.length ≤ 3000) : fnDq66 (many, s) = some (getJ many s) := by
  unfold getJ
  simp only [fnDq66, fnq66, nodeDq66_n0, nodeq66_n0, nodeDq66_n1, nodeq66_n1]
  by_cases h64 : s.length = 64
  · have e1 : ((s.length : Int) != 64) = false := by rw [h64]; rfl
    rw [if_neg (fun h => h h64), e1, cond_false]
    obtain ⟨x, y, r, rfl⟩ : ∃ x y r, s = x :: y :: r := by
      match s, h64 with
      | x :: y :: r, _ => exact ⟨x, y, r, rfl⟩
    have t1 : (x :: y :: r).take 1 = [x] := rfl
    have t2 : ((x :: y :: r).drop 1).take 1 = [y] := rfl
    have x1 : nth (x :: y :: r) 0 = some x := rfl
    have x2 : nth (x :: y :: r) 1 = some y := rfl
    rw [t1, t2, num1]
    by_cases c1 : many < 0
    · rw [if_pos (.inl c1), dec_true c1]; rfl
    · by_cases c2 : many > 24
      · rw [if_pos (.inr (.inl c2)), dec_false c1, dec_true c2]; rfl
      · rw [dec_false c1, dec_false c2, cond_false, cond_false, x1, x2]
        simp only [bindO_pure]
        by_cases hJ : x = 74
        · subst hJ
          have ej : (((74 : UInt8).toNat : Int) != 74) = false := rfl
          have wy : IntKind.wrap IntKind.i64 ((y.toNat : Nat) : Int) = (y.toNat : Int) := wrap64_self (by have := y.toNat_lt; omega)
          rw [ej, cond_false, wy]
          by_cases hN : ((y.toNat : Nat) : Int) = many
          · obtain ⟨m, rfl⟩ : ∃ m : Nat, many = (m : Int) := ⟨_, hN.symm⟩
            have hm : m ≤ 24 := by omega
            rw [if_neg (by rintro (h | h | h | h); omega; omega; exact h rfl; exact h hN), hN, bne_self_eq_false]
            generalize (74 : UInt8) :: y :: r = s at h64 hl
            have w0 : IntKind.wrap IntKind.i64 (2 + IntKind.wrap IntKind.i64 (Int.tdiv (IntKind.wrap IntKind.i64 ((m : Int) + 7)) 8)) = ((2 + (m + 7) / 8 : Nat) : Int) := by
              rw [wrap64_self (show -9223372036854775808 ≤ (m : Int) + 7 ∧ (m : Int) + 7 ≤ 9223372036854775807 by omega), Int.tdiv_eq_ediv_of_nonneg (by omega),
                wrap64_self (show -9223372036854775808 ≤ ((m : Int) + 7) / 8 ∧ ((m : Int) + 7) / 8 ≤ 9223372036854775807 by omega), wrap64_self (by omega)]
              omega
            have w4 : IntKind.wrap IntKind.i64 (((2 + (m + 7) / 8 : Nat) : Int) + 4) = ((2 + (m + 7) / 8 + 4 : Nat) : Int) := by rw [wrap64_self (by omega)]; omega
            have htl : ((s.drop 2).take ((m + 7) / 8)).length = (m + 7) / 8 := by rw [List.length_take, List.length_drop]; omega
            have s4 : 2 + (m + 7) / 8 + 4 - (2 + (m + 7) / 8) = 4 := by omega
            have s2 : 2 + (m + 7) / 8 - 2 = (m + 7) / 8 := by omega
            simp only [bindO_pure, cond_false, Sum.elim_inr, w0, w4, Int.toNat_natCast, s4, s2]
            rw [inR_true (show (0 : Int) ≤ ((2 + (m + 7) / 8 + 4 : Nat) : Int) ∧ ((2 + (m + 7) / 8 + 4 : Nat) : Int) < ((s.length + 1 : Nat) : Int) by omega),
              inR_true (show (0 : Int) ≤ ((2 + (m + 7) / 8 : Nat) : Int) ∧ ((2 + (m + 7) / 8 : Nat) : Int) < ((2 + (m + 7) / 8 + 4 + 1 : Nat) : Int) by omega),
              inR_true (show (0 : Int) ≤ ((2 + (m + 7) / 8 : Nat) : Int) ∧ ((2 + (m + 7) / 8 : Nat) : Int) < ((s.length + 1 : Nat) : Int) by omega),
              inR_true (show (0 : Int) ≤ 2 ∧ (2 : Int) < ((2 + (m + 7) / 8 + 1 : Nat) : Int) by omega)]
            simp only [Bool.and_self, cond_true, ref03_Tail_eq _ (show (s.take (2 + (m + 7) / 8)).length ≤ 1000000000000 by rw [List.length_take]; omega), bindO_pure]
            generalize tail (s.take (2 + (m + 7) / 8)) = tl
            by_cases ht : (s.drop (2 + (m + 7) / 8)).take 4 = tl
            · rw [if_neg (fun h => h ht), ht, beq_self_eq_true, Bool.not_true, cond_false]
              generalize (s.drop 2).take ((m + 7) / 8) = t at htl
              rcases rread_eq t m hm htl with ⟨hcl, hr⟩ | ⟨hcl, hr⟩
              · rw [hr]
                obtain ⟨u, hu⟩ := putJ_small (listT t m) (by rw [listT_len]; exact hm)
                have hp := rjput_eq (listT t m) (by rw [listT_len]; omega)
                rw [hu] at hp
                simp only [bindO_pure, Sum.elim_inr, unP, hp]
                by_cases hus : u = s
                · subst hus
                  rw [if_pos ⟨hcl, hu⟩, beq_self_eq_true]; rfl
                · have : (u == s) = false := beq_eq_false_iff_ne.2 hus
                  rw [if_neg (fun h => hus (by have := h.2; rw [hu] at this; exact (Prod.mk.inj this).1)), this]
                  rfl
              · rw [hr, if_neg (fun h => hcl h.1)]
                rfl
            · have : ((s.drop (2 + (m + 7) / 8)).take 4 == tl) = false := beq_eq_false_iff_ne.2 ht
              rw [if_pos ht, this]
              rfl
          · have : (((y.toNat : Nat) : Int) != many) = true := bne_iff_ne.2 hN
            rw [if_pos (.inr (.inr (.inr hN))), this]; rfl
        · have hx : ((x.toNat : Nat) : Int) ≠ 74 := fun q => hJ (by
            apply UInt8.toNat_inj.mp
            show x.toNat = 74
            omega)
          have ej : (((x.toNat : Nat) : Int) != 74) = true := bne_iff_ne.2 hx
          rw [if_pos (.inr (.inr (.inl (fun q => hJ (List.cons.inj q).1)))), ej]; rfl
  · have e1 : ((s.length : Int) != 64) = true := by rw [bne_iff_ne]; omega
    rw [if_pos h64, e1]; rfl
end Go.Proofs.R7J
namespace Go.Proofs.R7J
open Go Go.AE Go.Plain
open Go.Proofs.R7 (fnDlaw19_works)
theorem bytes_toNat (n : Nat) (h : n < 256) : (UInt8.ofNat n).toNat = n := by simp [UInt8.toNat_ofNat']; omega
theorem gT_bytes (L : List Bool) (i : Nat) (hi : i < 8 * ((L.length + 7) / 8)) : gT (bytesOf (pk L)) i = fL L i := by
  have hk : i / 8 < (L.length + 7) / 8 := by omega
  have e : (bytesOf (pk L))[i / 8]? = some (UInt8.ofNat (byteAt (fL L) (i / 8))) := by
    unfold bytesOf
    rw [List.getElem?_map, pk, pkF_at _ _ hk]
    simp
  unfold gT
  rw [List.getD_eq_getElem?_getD, e]
  show ((UInt8.ofNat (byteAt (fL L) (i / 8))).toNat).testBit (i % 8) = fL L i
  rw [bytes_toNat _ (byteAt_lt _ _), byteAt_test, decide_eq_true (show i % 8 < 8 by omega), Bool.true_and, show 8 * (i / 8) + i % 8 = i by omega]
theorem fL_in (L : List Bool) (i : Nat) (h : fL L i = true) : i < L.length := by
  by_cases q : i < L.length
  · exact q
  · unfold fL at h
    rw [List.getD_eq_getElem?_getD, List.getElem?_eq_none (by omega)] at h
    cases h
theorem bytes_len (L : List Bool) : (bytesOf (pk L)).length = (L.length + 7) / 8 := by unfold bytesOf; rw [List.length_map, pk_len]
theorem listT_bytes (L : List Bool) : listT (bytesOf (pk L)) L.length = L := by
  apply List.ext_getElem
  · rw [listT_len]
  · intro i h1 h2
    simp only [listT, List.getElem_map, List.getElem_range]
    rw [gT_bytes L i (by omega)]
    unfold fL
    rw [List.getD_eq_getElem?_getD, List.getElem?_eq_getElem h2]; rfl
theorem back_eq (L : List Bool) (h : L.length ≤ 24) : getJ (L.length : Int) (putJ L).1 = .inr L := by
  have hp : putJ L = (padTo (bodyJ L ++ tail (bodyJ L)), 0) := by rw [putJ, if_pos h]
  have hbody : bodyJ L = 74 :: (be 1 L.length ++ bytesOf (pk L)) := by
    unfold bodyJ putN
    rw [if_pos (by constructor; omega; simp; omega), Int.toNat_natCast]; rfl
  have hbe : (be 1 L.length).length = 1 := be_length 1 _
  have hlen : (bodyJ L).length = 2 + (L.length + 7) / 8 := by rw [hbody, List.length_cons, List.length_append, hbe, bytes_len]; omega
  have hu : padTo (bodyJ L ++ tail (bodyJ L)) = bodyJ L ++ (tail (bodyJ L) ++ List.replicate (60 - (bodyJ L).length) 0) := by rw [padTo_sealed (by omega), List.append_assoc]
  have hul : (padTo (bodyJ L ++ tail (bodyJ L))).length = 64 := by rw [hu, List.length_append, List.length_append, tail_length, List.length_replicate]; omega
  have k1 : (padTo (bodyJ L ++ tail (bodyJ L))).take (2 + (L.length + 7) / 8) = bodyJ L := by rw [hu]; exact List.take_left' hlen
  have k2 : ((padTo (bodyJ L ++ tail (bodyJ L))).drop (2 + (L.length + 7) / 8)).take 4 = tail (bodyJ L) := by
    rw [hu, List.drop_left' hlen]; exact List.take_left' (tail_length _)
  have hu2 : padTo (bodyJ L ++ tail (bodyJ L)) = 74 :: (be 1 L.length ++ (bytesOf (pk L) ++ (tail (bodyJ L) ++ List.replicate (60 - (bodyJ L).length) 0))) := by
    rw [hu]
    conv => lhs; arg 1; rw [hbody]
    simp
  have k3 : (padTo (bodyJ L ++ tail (bodyJ L))).take 1 = [74] := by rw [hu2]; rfl
  have k4 : ((padTo (bodyJ L ++ tail (bodyJ L))).drop 1).take 1 = be 1 L.length := by
    rw [hu2, List.drop_succ_cons, List.drop_zero]; exact List.take_left' hbe
  have k5 : ((padTo (bodyJ L ++ tail (bodyJ L))).drop 2).take ((L.length + 7) / 8) = bytesOf (pk L) := by
    rw [hu2, List.drop_succ_cons, List.drop_left' hbe]; exact List.take_left' (bytes_len L)
  have hnum : num (be 1 L.length) = L.length := num_be_small (by omega)
  have hcl : Clean (bytesOf (pk L)) L.length := fun i hi hg => fL_in L i (by rw [← gT_bytes L i (by rw [bytes_len] at hi; exact hi)]; exact hg)
  rw [hp]
  unfold getJ
  simp only [Int.toNat_natCast]
  rw [k1, k2, k3, k4, k5, hnum, hul, listT_bytes, hp]
  rw [if_neg (fun q => q rfl), if_neg (by rintro (q | q | q | q); omega; omega; exact q rfl; exact q rfl), if_neg (fun q => q rfl), if_pos ⟨hcl, rfl⟩]
theorem works_is : fnDlaw19_works () = some true := rfl
theorem none_is : fnDq23 () = some () := rfl
theorem enc_rb (L : List Bool) (h : L.length ≤ 1000) : fnDq59 L = some (bytesOf (pk L)) := rbytes_eq L h
theorem putJ_any (L : List Bool) : (∃ u, putJ L = (u, 0)) ∧ L.length ≤ 24 ∨ putJ L = ([], 3) := by
  unfold putJ
  by_cases h : L.length ≤ 24
  · rw [if_pos h]; exact .inl ⟨⟨_, rfl⟩, h⟩
  · rw [if_neg h]; exact .inr rfl
theorem getJ_len (many : Int) (s : List UInt8) (L : List Bool) (h : getJ many s = .inr L) : L.length ≤ 24 := by
  unfold getJ at h
  split at h
  · cases h
  · split at h
    · cases h
    · rename_i hn
      split at h
      · cases h
      · split at h
        · rw [← Sum.inr.inj h, listT_len]
          have : ¬ many > 24 := fun q => hn (.inr (.inl q))
          omega
        · cases h
theorem JournalCodes_true (a : Int) (l : List Int) (s : List UInt8) : fnDq24 (a, l, s) = some true := by
  simp only [fnDq24, fnq24, works_is, bindO_pure, nodeDq24_n0, nodeq24_n0]
  by_cases h1 : (l.length : Int) > 100
  · rw [dec_true h1]; rfl
  rw [dec_false h1, cond_false]
  by_cases h2 : (s.length : Int) > 3000
  · rw [dec_true h2]; rfl
  rw [dec_false h2]
  obtain ⟨L, hL, hadd⟩ := adds_eq a l s (clamp a) (clamp_le a) (by omega)
  have hc := clamp_le a
  have hp := jput_eq L
  have hr := rjput_eq L (by omega)
  rw [hL] at hp
  simp only [bindO_pure, cond_false, mnew_eq, rnew_eq, unP, hadd, hp, hr, none_is]
  have g1 := jget_eq a s (by omega)
  have g2 := rget_eq a s (by omega)
  have hB := enc_rb L (by omega)
  rw [g1, g2]
  rcases putJ_any L with ⟨⟨u, hu⟩, h24⟩ | hu
  · have hback := back_eq L h24
    rw [hu] at hback
    have hul : u.length ≤ 3000 := by
      by_cases q : u.length = 64
      · omega
      · unfold getJ at hback
        rw [if_pos q] at hback
        cases hback
    have g3 := jget_eq (L.length : Int) u hul
    rw [hback] at g3
    have n2 : nodeDq24_n2 (a, s, u, 0, u, 0, L) = some false := by
      simp [nodeDq24_n2, nodeq24_n2]
    simp only [hu, unP, bindO_pure, n2, cond_false, g3]
    cases hg : getJ a s with
    | inl e =>
      simp only [encJ, Sum.elim_inl, Sum.elim_inr, bindO_pure, unP, nodeDq24_n3v1, nodeq24_n3v1, beq_self_eq_true, cond_true, bne_self_eq_false, cond_false, fnDq44, fnq44, hB]
    | inr M =>
      have hM := getJ_len a s M hg
      simp only [encJ, Sum.elim_inr, bindO_pure, unP, nodeDq24_n3v7, nodeq24_n3v7, beq_self_eq_true, cond_true, bne_self_eq_false, cond_false, fnDq44, fnq44, fnDq47, fnq47, hB, enc_rb M (by omega)]
  · have n2 : nodeDq24_n2 (a, s, [], 3, [], 3, L) = some false := by
      simp [nodeDq24_n2, nodeq24_n2]
    have g3 : fnDq21 ((L.length : Int), []) = some (.inl 12) := rfl
    simp only [hu, unP, bindO_pure, n2, cond_false, g3]
    cases hg : getJ a s with
    | inl e =>
      simp only [encJ, Sum.elim_inl, bindO_pure, nodeDq24_n3, nodeq24_n3, beq_self_eq_true, cond_true, show ((3 : Int) != 0) = true from rfl]
    | inr M =>
      have hM := getJ_len a s M hg
      simp only [encJ, Sum.elim_inl, Sum.elim_inr, bindO_pure, unP, nodeDq24_n3v6, nodeq24_n3v6, beq_self_eq_true, cond_true, fnDq44, fnq44, fnDq47, fnq47, enc_rb M (by omega), show ((3 : Int) != 0) = true from rfl]
end Go.Proofs.R7J

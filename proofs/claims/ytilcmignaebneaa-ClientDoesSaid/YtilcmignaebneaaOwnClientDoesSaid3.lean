/- What the functions that ClientDoesSaid reaches compute: part 3. -/
import Derived.Test.YtilcmignaebneaaOwnClientDoesSaid2
set_option linter.unusedVariables false
set_option linter.unusedSimpArgs false
namespace Go.Proofs.R8
open Go Go.AE
set_option maxRecDepth 100000
--@ law44_ClientDoes
noncomputable def envq19 : Env := [(6,.pure Fq30),(7,.pure Fq29),(8,.func Fq17),(15,.func Fq28),(16,.func Fq33),(9,.func Fq10),(10,.func Fq3),(17,.func Fq32),(18,.func Fq7),(19,.func Fq31),(11,.func Fq5),(14,.pure Fq18),(13,.func Fq1)]
theorem envq19Ok : EnvOk Try.prog envq19 := EnvOk.cons Fq30_ok (EnvOk.cons Fq29_ok (EnvOk.cons Fq17_ok (EnvOk.cons Fq28_ok (EnvOk.cons Fq33_ok (EnvOk.cons Fq10_ok (EnvOk.cons Fq3_ok (EnvOk.cons Fq32_ok (EnvOk.cons Fq7_ok (EnvOk.cons Fq31_ok (EnvOk.cons Fq5_ok (EnvOk.cons Fq18_ok (EnvOk.cons Fq1_ok (EnvOk.nil)))))))))))))
noncomputable def bq19 : Code := Try.f4.body.getD .skip
noncomputable def Lq19_n7 : Code := codeAt [1,1,1,1,1,1,0,1,0,0,1,0,0,1,1,1,0] bq19
noncomputable def annLq19_n7 : Ann := .none
theorem annLq19_n7_ok : AnnOk Try.prog 158 Lq19_n7 annLq19_n7 := (annOk_none _ _ _)
abbrev Iq19_n7 := (List (Int × Int × List UInt8 × Int × Int × Int × (Int × Int × Int × List UInt8) × List Int)) × (Int) × (Bool) × (List Int) × (List Int) × (Int) × (Int) × (List Int) × (List Int) × (Int) × (Int) × (Nat) × (Nat) × (List (Int × Int)) × (List (Int × List UInt8)) × (Int) × (Int) × (List (Int × List UInt8)) × (List (Int × Int)) × (List (Int × List UInt8)) × (List (Int × Int)) × (List (Int × Int)) × (List (Int × List UInt8))
abbrev Yq19_n7 := (Bool)
def Sq19_n7 : Iq19_n7 → St := fun (t0,t11,t13,o0_0,o0_1,o0_4,o0_5,o1_0,o1_1,o1_4,o1_5,o3_0,o3_0_2,o4,o5,o8_4,o8_5,o9,o10,o11,o12,o15,o16) => { env := [(0,.ro (.st (.pair (.int .i64) (.pair (.int .i64) (.pair .str (.pair (.int .i64) (.pair (.int .i64) (.pair (.int .i64) (.pair (.pair (.int .i64) (.pair (.int .i64) (.pair (.int .i64) .str))) (.list (.int .i64)))))))))) t0),(7,.ptr 0 0),(8,.ptr 1 0),(9,.ptr 2 0),(10,.ptr 3 0),(11,.int .i64 t11),(13,.bool t13)],stk := [[]],H := [.cells [.ro (.int .i64) o0_0,.ro (.int .i64) o0_1,.own 4,.own 5,.int .i64 o0_4,.int .i64 o0_5],.cells [.ro (.int .i64) o1_0,.ro (.int .i64) o1_1,.own 6,.own 7,.int .i64 o1_4,.int .i64 o1_5],.cells [.ifc 27 (.ptr 0 0),.ifc 27 (.ptr 8 0),.int .i64 (0),.own 9,.own 10],.cells [.sub 11 o3_0 o3_0_2 2,.own 12],.arr (.st (.pair (.int .i64) (.int .i64))) o4,.arr (.st (.pair (.int .i64) .str)) o5,.arr (.st (.pair (.int .i64) (.int .i64))) ([]),.arr (.st (.pair (.int .i64) .str)) ([]),.cells [.own 13,.own 14,.own 15,.own 16,.int .i64 o8_4,.int .i64 o8_5],.arr (.st (.pair (.int .i64) .str)) o9,.arr (.st (.pair (.int .i64) (.int .i64))) o10,.arr (.st (.pair (.int .i64) .str)) o11,.arr (.st (.pair (.int .i64) (.int .i64))) o12,.arr (.int .i64) ([]),.arr (.int .i64) ([]),.arr (.st (.pair (.int .i64) (.int .i64))) o15,.arr (.st (.pair (.int .i64) .str)) o16],blk := 16386 }
def decPq19_n7 (s : St) : Option {x : Iq19_n7 // s = Sq19_n7 x} := match s with
  | { env := [(0,.ro (.st (.pair (.int .i64) (.pair (.int .i64) (.pair .str (.pair (.int .i64) (.pair (.int .i64) (.pair (.int .i64) (.pair (.pair (.int .i64) (.pair (.int .i64) (.pair (.int .i64) .str))) (.list (.int .i64)))))))))) t0),(7,.ptr 0 0),(8,.ptr 1 0),(9,.ptr 2 0),(10,.ptr 3 0),(11,.int .i64 t11),(13,.bool t13)],stk := [[]],H := [.cells [.ro (.int .i64) o0_0,.ro (.int .i64) o0_1,.own 4,.own 5,.int .i64 o0_4,.int .i64 o0_5],.cells [.ro (.int .i64) o1_0,.ro (.int .i64) o1_1,.own 6,.own 7,.int .i64 o1_4,.int .i64 o1_5],.cells [.ifc 27 (.ptr 0 0),.ifc 27 (.ptr 8 0),.int .i64 r11,.own 9,.own 10],.cells [.sub 11 o3_0 o3_0_2 2,.own 12],.arr (.st (.pair (.int .i64) (.int .i64))) o4,.arr (.st (.pair (.int .i64) .str)) o5,.arr (.st (.pair (.int .i64) (.int .i64))) r16,.arr (.st (.pair (.int .i64) .str)) r17,.cells [.own 13,.own 14,.own 15,.own 16,.int .i64 o8_4,.int .i64 o8_5],.arr (.st (.pair (.int .i64) .str)) o9,.arr (.st (.pair (.int .i64) (.int .i64))) o10,.arr (.st (.pair (.int .i64) .str)) o11,.arr (.st (.pair (.int .i64) (.int .i64))) o12,.arr (.int .i64) r24,.arr (.int .i64) r25,.arr (.st (.pair (.int .i64) (.int .i64))) o15,.arr (.st (.pair (.int .i64) .str)) o16],blk := 16386 } => if h11 : r11 = 0 then if h16 : r16 = [] then if h17 : r17 = [] then if h24 : r24 = [] then if h25 : r25 = [] then some ⟨(t0,t11,t13,o0_0,o0_1,o0_4,o0_5,o1_0,o1_1,o1_4,o1_5,o3_0,o3_0_2,o4,o5,o8_4,o8_5,o9,o10,o11,o12,o15,o16),by subst h11 h16 h17 h24 h25; rfl⟩ else none else none else none else none else none
  | _ => none
def decq19_n7 (s : St) : Option Iq19_n7 := pk (decPq19_n7 s)
theorem decq19_n7_ok (s : St) (x : Iq19_n7) (h : decq19_n7 s = some x) : s = Sq19_n7 x := pk_ok (o := decPq19_n7 s) h
def outq19_n7 : Iq19_n7 → (Ex → St → Ans) → Yq19_n7 → Ans := fun (t0,t11,t13,o0_0,o0_1,o0_4,o0_5,o1_0,o1_1,o1_4,o1_5,o3_0,o3_0_2,o4,o5,o8_4,o8_5,o9,o10,o11,o12,o15,o16) K => fun t157_y => K (Ex.norm) { env := [(0,.ro (.st (.pair (.int .i64) (.pair (.int .i64) (.pair .str (.pair (.int .i64) (.pair (.int .i64) (.pair (.int .i64) (.pair (.pair (.int .i64) (.pair (.int .i64) (.pair (.int .i64) .str))) (.list (.int .i64)))))))))) t0),(7,.ptr 0 0),(8,.ptr 1 0),(9,.ptr 2 0),(10,.ptr 3 0),(11,.int .i64 t11),(157,.bool t157_y)],stk := [[]],H := [.cells [.ro (.int .i64) o0_0,.ro (.int .i64) o0_1,.own 4,.own 5,.int .i64 o0_4,.int .i64 o0_5],.cells [.ro (.int .i64) o1_0,.ro (.int .i64) o1_1,.own 6,.own 7,.int .i64 o1_4,.int .i64 o1_5],.cells [.ifc 27 (.ptr 0 0),.ifc 27 (.ptr 8 0),.int .i64 (0),.own 9,.own 10],.cells [.sub 11 o3_0 o3_0_2 2,.own 12],.arr (.st (.pair (.int .i64) (.int .i64))) o4,.arr (.st (.pair (.int .i64) .str)) o5,.arr (.st (.pair (.int .i64) (.int .i64))) ([]),.arr (.st (.pair (.int .i64) .str)) ([]),.cells [.own 13,.own 14,.own 15,.own 16,.int .i64 o8_4,.int .i64 o8_5],.arr (.st (.pair (.int .i64) .str)) o9,.arr (.st (.pair (.int .i64) (.int .i64))) o10,.arr (.st (.pair (.int .i64) .str)) o11,.arr (.st (.pair (.int .i64) (.int .i64))) o12,.arr (.int .i64) ([]),.arr (.int .i64) ([]),.arr (.st (.pair (.int .i64) (.int .i64))) o15,.arr (.st (.pair (.int .i64) .str)) o16],blk := 16386 }
def nodeq19_n7 {β : Type} : Iq19_n7 → (Yq19_n7 → Option β) → Option β := fun (t0,t11,t13,o0_0,o0_1,o0_4,o0_5,o1_0,o1_1,o1_4,o1_5,o3_0,o3_0_2,o4,o5,o8_4,o8_5,o9,o10,o11,o12,o15,o16) exit => (bif !t13 then (exit (true)) else (bindO (fnDq5 ((0 : Int),o0_0,o0_1,o0_4,o0_5,o8_4,o8_5,o9,o10,o4,o5,[],[],o15,o16)) fun o11_2 => (bif Nat.ble (o3_0 + o3_0_2) (List.length o11) then (bindO (fnDq18 (o11_2,List.take o3_0_2 (List.drop o3_0 o11))) fun r => (bif !r then (exit (true)) else (bindO (fnDq1 ((0 : Int),o0_0,o0_1,o0_4,o0_5,o8_4,o8_5,o9,o10,o4,o5,[],[],o15,o16)) fun _ => (exit (false))))) else none)))
def nodeDq19_n7 (i : Iq19_n7) : Option Yq19_n7 := nodeq19_n7 i some
theorem nodeq19_n7_nat (i : Iq19_n7) (k : Yq19_n7 → Ans) : nodeq19_n7 i k = bindO (nodeDq19_n7 i) k := by
  obtain ⟨t0,t11,t13,o0_0,o0_1,o0_4,o0_5,o1_0,o1_1,o1_4,o1_5,o3_0,o3_0_2,o4,o5,o8_4,o8_5,o9,o10,o11,o12,o15,o16⟩ := i
  simp only [nodeDq19_n7,nodeq19_n7,bindO_cond,bindO_assoc,bindO_none,bindO_pure,bindO_elim,bindO_unP,bindO_empty]
theorem nodeq19_n7_ok (i : Iq19_n7) (K : Ex → St → Ans) : codeI Try.tab envq19 noHint (codeD Try.tab envq19 noHint 0 64) 70 158 annLq19_n7 Lq19_n7 (weakP 5000000 (exk [0,7,8,9,10,11,157] [6] []) K) (Sq19_n7 i) = nodeq19_n7 i (outq19_n7 i K) := by kernel_rfl
theorem GNq19_n7_ok : CSum Try.prog 158 Lq19_n7 (sumN decq19_n7 nodeDq19_n7 outq19_n7) := csum_node mixed tabOk envq19Ok 5000000 (exk [0,7,8,9,10,11,157] [6] []) annLq19_n7_ok decq19_n7_ok nodeq19_n7_ok nodeq19_n7_nat
noncomputable def Gq19_n7 : (Ex → St → Ans) → St → Ans := (sumN decq19_n7 nodeDq19_n7 outq19_n7)
theorem Gq19_n7_ok : CSum Try.prog 158 Lq19_n7 Gq19_n7 := GNq19_n7_ok
noncomputable def Lq19_n6 : Code := codeAt [1,1,1,1,1,1,0,1,0,0,1,0,0,1,1,0,1,0,1,1,1,0,1,1,0] bq19
noncomputable def annLq19_n6 : Ann := .none
theorem annLq19_n6_ok : AnnOk Try.prog 158 Lq19_n6 annLq19_n6 := (annOk_none _ _ _)
abbrev Iq19_n6 := (List (Int × Int × List UInt8 × Int × Int × Int × (Int × Int × Int × List UInt8) × List Int)) × (Int) × (Int) × (Bool) × (Int) × (List Int) × (List Int) × (Int) × (Int) × (List Int) × (List Int) × (Int) × (Int) × (Nat) × (Nat) × (Int) × (Int) × (List (Int × Int)) × (List (Int × List UInt8)) × (Int) × (Int) × (List (Int × List UInt8)) × (List (Int × Int)) × (List (Int × List UInt8)) × (List (Int × Int)) × (List (Int × Int)) × (List (Int × List UInt8))
abbrev Yq19_n6 := (Bool)
def Sq19_n6 : Iq19_n6 → St := fun (t0,t11,t17,t18,t19,o0_0,o0_1,o0_4,o0_5,o1_0,o1_1,o1_4,o1_5,o3_0,o3_0_2,o4_0,o4_1,o5,o6,o9_4,o9_5,o10,o11,o12,o13,o16,o17) => { env := [(0,.ro (.st (.pair (.int .i64) (.pair (.int .i64) (.pair .str (.pair (.int .i64) (.pair (.int .i64) (.pair (.int .i64) (.pair (.pair (.int .i64) (.pair (.int .i64) (.pair (.int .i64) .str))) (.list (.int .i64)))))))))) t0),(7,.ptr 0 0),(8,.ptr 1 0),(9,.ptr 2 0),(10,.ptr 3 0),(11,.int .i64 t11),(16,.ptr 4 0),(17,.int .i64 t17),(18,.bool t18),(19,.int .i64 t19)],stk := [[]],H := [.cells [.ro (.int .i64) o0_0,.ro (.int .i64) o0_1,.own 5,.own 6,.int .i64 o0_4,.int .i64 o0_5],.cells [.ro (.int .i64) o1_0,.ro (.int .i64) o1_1,.own 7,.own 8,.int .i64 o1_4,.int .i64 o1_5],.cells [.ifc 27 (.ptr 0 0),.ifc 27 (.ptr 9 0),.int .i64 (0),.own 10,.own 11],.cells [.sub 12 o3_0 o3_0_2 2,.own 13],.cells [.int .i64 o4_0,.int .i64 o4_1],.arr (.st (.pair (.int .i64) (.int .i64))) o5,.arr (.st (.pair (.int .i64) .str)) o6,.arr (.st (.pair (.int .i64) (.int .i64))) ([]),.arr (.st (.pair (.int .i64) .str)) ([]),.cells [.own 14,.own 15,.own 16,.own 17,.int .i64 o9_4,.int .i64 o9_5],.arr (.st (.pair (.int .i64) .str)) o10,.arr (.st (.pair (.int .i64) (.int .i64))) o11,.arr (.st (.pair (.int .i64) .str)) o12,.arr (.st (.pair (.int .i64) (.int .i64))) o13,.arr (.int .i64) ([]),.arr (.int .i64) ([]),.arr (.st (.pair (.int .i64) (.int .i64))) o16,.arr (.st (.pair (.int .i64) .str)) o17],blk := 16386 }
def decPq19_n6 (s : St) : Option {x : Iq19_n6 // s = Sq19_n6 x} := match s with
  | { env := [(0,.ro (.st (.pair (.int .i64) (.pair (.int .i64) (.pair .str (.pair (.int .i64) (.pair (.int .i64) (.pair (.int .i64) (.pair (.pair (.int .i64) (.pair (.int .i64) (.pair (.int .i64) .str))) (.list (.int .i64)))))))))) t0),(7,.ptr 0 0),(8,.ptr 1 0),(9,.ptr 2 0),(10,.ptr 3 0),(11,.int .i64 t11),(16,.ptr 4 0),(17,.int .i64 t17),(18,.bool t18),(19,.int .i64 t19)],stk := [[]],H := [.cells [.ro (.int .i64) o0_0,.ro (.int .i64) o0_1,.own 5,.own 6,.int .i64 o0_4,.int .i64 o0_5],.cells [.ro (.int .i64) o1_0,.ro (.int .i64) o1_1,.own 7,.own 8,.int .i64 o1_4,.int .i64 o1_5],.cells [.ifc 27 (.ptr 0 0),.ifc 27 (.ptr 9 0),.int .i64 r13,.own 10,.own 11],.cells [.sub 12 o3_0 o3_0_2 2,.own 13],.cells [.int .i64 o4_0,.int .i64 o4_1],.arr (.st (.pair (.int .i64) (.int .i64))) o5,.arr (.st (.pair (.int .i64) .str)) o6,.arr (.st (.pair (.int .i64) (.int .i64))) r20,.arr (.st (.pair (.int .i64) .str)) r21,.cells [.own 14,.own 15,.own 16,.own 17,.int .i64 o9_4,.int .i64 o9_5],.arr (.st (.pair (.int .i64) .str)) o10,.arr (.st (.pair (.int .i64) (.int .i64))) o11,.arr (.st (.pair (.int .i64) .str)) o12,.arr (.st (.pair (.int .i64) (.int .i64))) o13,.arr (.int .i64) r28,.arr (.int .i64) r29,.arr (.st (.pair (.int .i64) (.int .i64))) o16,.arr (.st (.pair (.int .i64) .str)) o17],blk := 16386 } => if h13 : r13 = 0 then if h20 : r20 = [] then if h21 : r21 = [] then if h28 : r28 = [] then if h29 : r29 = [] then some ⟨(t0,t11,t17,t18,t19,o0_0,o0_1,o0_4,o0_5,o1_0,o1_1,o1_4,o1_5,o3_0,o3_0_2,o4_0,o4_1,o5,o6,o9_4,o9_5,o10,o11,o12,o13,o16,o17),by subst h13 h20 h21 h28 h29; rfl⟩ else none else none else none else none else none
  | _ => none
def decq19_n6 (s : St) : Option Iq19_n6 := pk (decPq19_n6 s)
theorem decq19_n6_ok (s : St) (x : Iq19_n6) (h : decq19_n6 s = some x) : s = Sq19_n6 x := pk_ok (o := decPq19_n6 s) h
def outq19_n6 : Iq19_n6 → (Ex → St → Ans) → Yq19_n6 → Ans := fun (t0,t11,t17,t18,t19,o0_0,o0_1,o0_4,o0_5,o1_0,o1_1,o1_4,o1_5,o3_0,o3_0_2,o4_0,o4_1,o5,o6,o9_4,o9_5,o10,o11,o12,o13,o16,o17) K => fun t13_y => K (Ex.norm) { env := [(0,.ro (.st (.pair (.int .i64) (.pair (.int .i64) (.pair .str (.pair (.int .i64) (.pair (.int .i64) (.pair (.int .i64) (.pair (.pair (.int .i64) (.pair (.int .i64) (.pair (.int .i64) .str))) (.list (.int .i64)))))))))) t0),(7,.ptr 0 0),(8,.ptr 1 0),(9,.ptr 2 0),(10,.ptr 3 0),(11,.int .i64 t11),(13,.bool t13_y),(16,.ptr 4 0),(17,.int .i64 t17),(18,.bool t18)],stk := [[]],H := [.cells [.ro (.int .i64) o0_0,.ro (.int .i64) o0_1,.own 5,.own 6,.int .i64 o0_4,.int .i64 o0_5],.cells [.ro (.int .i64) o1_0,.ro (.int .i64) o1_1,.own 7,.own 8,.int .i64 o1_4,.int .i64 o1_5],.cells [.ifc 27 (.ptr 0 0),.ifc 27 (.ptr 9 0),.int .i64 (0),.own 10,.own 11],.cells [.sub 12 o3_0 o3_0_2 2,.own 13],.cells [.int .i64 o4_0,.int .i64 o4_1],.arr (.st (.pair (.int .i64) (.int .i64))) o5,.arr (.st (.pair (.int .i64) .str)) o6,.arr (.st (.pair (.int .i64) (.int .i64))) ([]),.arr (.st (.pair (.int .i64) .str)) ([]),.cells [.own 14,.own 15,.own 16,.own 17,.int .i64 o9_4,.int .i64 o9_5],.arr (.st (.pair (.int .i64) .str)) o10,.arr (.st (.pair (.int .i64) (.int .i64))) o11,.arr (.st (.pair (.int .i64) .str)) o12,.arr (.st (.pair (.int .i64) (.int .i64))) o13,.arr (.int .i64) ([]),.arr (.int .i64) ([]),.arr (.st (.pair (.int .i64) (.int .i64))) o16,.arr (.st (.pair (.int .i64) .str)) o17],blk := 16386 }
def nodeq19_n6 {β : Type} : Iq19_n6 → (Yq19_n6 → Option β) → Option β := fun (t0,t11,t17,t18,t19,o0_0,o0_1,o0_4,o0_5,o1_0,o1_1,o1_4,o1_5,o3_0,o3_0_2,o4_0,o4_1,o5,o6,o9_4,o9_5,o10,o11,o12,o13,o16,o17) exit => (bif t17 == t19 then (bif t17 == (0 : Int) then (exit (true)) else (exit (!t18))) else (exit (false)))
def nodeDq19_n6 (i : Iq19_n6) : Option Yq19_n6 := nodeq19_n6 i some
theorem nodeq19_n6_nat (i : Iq19_n6) (k : Yq19_n6 → Ans) : nodeq19_n6 i k = bindO (nodeDq19_n6 i) k := by
  obtain ⟨t0,t11,t17,t18,t19,o0_0,o0_1,o0_4,o0_5,o1_0,o1_1,o1_4,o1_5,o3_0,o3_0_2,o4_0,o4_1,o5,o6,o9_4,o9_5,o10,o11,o12,o13,o16,o17⟩ := i
  simp only [nodeDq19_n6,nodeq19_n6,bindO_cond,bindO_assoc,bindO_none,bindO_pure,bindO_elim,bindO_unP,bindO_empty]
theorem nodeq19_n6_ok (i : Iq19_n6) (K : Ex → St → Ans) : codeI Try.tab envq19 noHint (codeD Try.tab envq19 noHint 0 64) 70 158 annLq19_n6 Lq19_n6 (weakP 5000000 (exk [0,7,8,9,10,11,13,16,17,18] [6] []) K) (Sq19_n6 i) = nodeq19_n6 i (outq19_n6 i K) := by kernel_rfl
theorem GNq19_n6_ok : CSum Try.prog 158 Lq19_n6 (sumN decq19_n6 nodeDq19_n6 outq19_n6) := csum_node mixed tabOk envq19Ok 5000000 (exk [0,7,8,9,10,11,13,16,17,18] [6] []) annLq19_n6_ok decq19_n6_ok nodeq19_n6_ok nodeq19_n6_nat
noncomputable def Gq19_n6 : (Ex → St → Ans) → St → Ans := (sumN decq19_n6 nodeDq19_n6 outq19_n6)
theorem Gq19_n6_ok : CSum Try.prog 158 Lq19_n6 Gq19_n6 := GNq19_n6_ok
noncomputable def Lq19_n5 : Code := codeAt [1,1,1,1,1,1,0,1,0,0,1,0,0,1,1,0,1,0,1,0,1,0,1] bq19
noncomputable def annLq19_n5 : Ann := .none
theorem annLq19_n5_ok : AnnOk Try.prog 158 Lq19_n5 annLq19_n5 := (annOk_none _ _ _)
abbrev Iq19_n5 := (List (Int × Int × List UInt8 × Int × Int × Int × (Int × Int × Int × List UInt8) × List Int)) × (Int) × (Int) × (Bool) × (List Int) × (List Int) × (Int) × (Int) × (List Int) × (List Int) × (Int) × (Int) × (Nat) × (Nat) × (Int) × (Int) × (List UInt8) × (Int) × (Int) × (Int) × (Int) × (Int) × (Int) × (List UInt8) × (List Int) × (List (Int × Int)) × (List (Int × List UInt8)) × (Int) × (Int) × (List (Int × List UInt8)) × (List (Int × Int)) × (List (Int × List UInt8)) × (List (Int × Int)) × (List (Int × Int)) × (List (Int × List UInt8))
abbrev Yq19_n5 := (Nat) × (Nat) × (List (Int × List UInt8))
def Sq19_n5 : Iq19_n5 → St := fun (t0,t11,t15,t72,o0_0,o0_1,o0_4,o0_5,o1_0,o1_1,o1_4,o1_5,o3_0,o3_0_2,o4_0,o4_1,o4_2,o4_3,o4_4,o4_5,o4_6,o4_7,o4_8,o4_9,o4_10,o5,o6,o9_4,o9_5,o10,o11,o12,o13,o16,o17) => { env := [(0,.ro (.st (.pair (.int .i64) (.pair (.int .i64) (.pair .str (.pair (.int .i64) (.pair (.int .i64) (.pair (.int .i64) (.pair (.pair (.int .i64) (.pair (.int .i64) (.pair (.int .i64) .str))) (.list (.int .i64)))))))))) t0),(7,.ptr 0 0),(8,.ptr 1 0),(9,.ptr 2 0),(10,.ptr 3 0),(11,.int .i64 t11),(12,.ptr 4 0),(15,.int .i64 t15),(72,.bool t72)],stk := [[]],H := [.cells [.ro (.int .i64) o0_0,.ro (.int .i64) o0_1,.own 5,.own 6,.int .i64 o0_4,.int .i64 o0_5],.cells [.ro (.int .i64) o1_0,.ro (.int .i64) o1_1,.own 7,.own 8,.int .i64 o1_4,.int .i64 o1_5],.cells [.ifc 27 (.ptr 0 0),.ifc 27 (.ptr 9 0),.int .i64 (0),.own 10,.own 11],.cells [.sub 12 o3_0 o3_0_2 2,.own 13],.cells [.int .i64 o4_0,.int .i64 o4_1,.str o4_2,.int .i64 o4_3,.int .i64 o4_4,.int .i64 o4_5,.int .i64 o4_6,.int .i64 o4_7,.int .i64 o4_8,.str o4_9,.ro (.int .i64) o4_10],.arr (.st (.pair (.int .i64) (.int .i64))) o5,.arr (.st (.pair (.int .i64) .str)) o6,.arr (.st (.pair (.int .i64) (.int .i64))) ([]),.arr (.st (.pair (.int .i64) .str)) ([]),.cells [.own 14,.own 15,.own 16,.own 17,.int .i64 o9_4,.int .i64 o9_5],.arr (.st (.pair (.int .i64) .str)) o10,.arr (.st (.pair (.int .i64) (.int .i64))) o11,.arr (.st (.pair (.int .i64) .str)) o12,.arr (.st (.pair (.int .i64) (.int .i64))) o13,.arr (.int .i64) ([]),.arr (.int .i64) ([]),.arr (.st (.pair (.int .i64) (.int .i64))) o16,.arr (.st (.pair (.int .i64) .str)) o17],blk := 16386 }
def decPq19_n5 (s : St) : Option {x : Iq19_n5 // s = Sq19_n5 x} := match s with
  | { env := [(0,.ro (.st (.pair (.int .i64) (.pair (.int .i64) (.pair .str (.pair (.int .i64) (.pair (.int .i64) (.pair (.int .i64) (.pair (.pair (.int .i64) (.pair (.int .i64) (.pair (.int .i64) .str))) (.list (.int .i64)))))))))) t0),(7,.ptr 0 0),(8,.ptr 1 0),(9,.ptr 2 0),(10,.ptr 3 0),(11,.int .i64 t11),(12,.ptr 4 0),(15,.int .i64 t15),(72,.bool t72)],stk := [[]],H := [.cells [.ro (.int .i64) o0_0,.ro (.int .i64) o0_1,.own 5,.own 6,.int .i64 o0_4,.int .i64 o0_5],.cells [.ro (.int .i64) o1_0,.ro (.int .i64) o1_1,.own 7,.own 8,.int .i64 o1_4,.int .i64 o1_5],.cells [.ifc 27 (.ptr 0 0),.ifc 27 (.ptr 9 0),.int .i64 r12,.own 10,.own 11],.cells [.sub 12 o3_0 o3_0_2 2,.own 13],.cells [.int .i64 o4_0,.int .i64 o4_1,.str o4_2,.int .i64 o4_3,.int .i64 o4_4,.int .i64 o4_5,.int .i64 o4_6,.int .i64 o4_7,.int .i64 o4_8,.str o4_9,.ro (.int .i64) o4_10],.arr (.st (.pair (.int .i64) (.int .i64))) o5,.arr (.st (.pair (.int .i64) .str)) o6,.arr (.st (.pair (.int .i64) (.int .i64))) r28,.arr (.st (.pair (.int .i64) .str)) r29,.cells [.own 14,.own 15,.own 16,.own 17,.int .i64 o9_4,.int .i64 o9_5],.arr (.st (.pair (.int .i64) .str)) o10,.arr (.st (.pair (.int .i64) (.int .i64))) o11,.arr (.st (.pair (.int .i64) .str)) o12,.arr (.st (.pair (.int .i64) (.int .i64))) o13,.arr (.int .i64) r36,.arr (.int .i64) r37,.arr (.st (.pair (.int .i64) (.int .i64))) o16,.arr (.st (.pair (.int .i64) .str)) o17],blk := 16386 } => if h12 : r12 = 0 then if h28 : r28 = [] then if h29 : r29 = [] then if h36 : r36 = [] then if h37 : r37 = [] then some ⟨(t0,t11,t15,t72,o0_0,o0_1,o0_4,o0_5,o1_0,o1_1,o1_4,o1_5,o3_0,o3_0_2,o4_0,o4_1,o4_2,o4_3,o4_4,o4_5,o4_6,o4_7,o4_8,o4_9,o4_10,o5,o6,o9_4,o9_5,o10,o11,o12,o13,o16,o17),by subst h12 h28 h29 h36 h37; rfl⟩ else none else none else none else none else none
  | _ => none
def decq19_n5 (s : St) : Option Iq19_n5 := pk (decPq19_n5 s)
theorem decq19_n5_ok (s : St) (x : Iq19_n5) (h : decq19_n5 s = some x) : s = Sq19_n5 x := pk_ok (o := decPq19_n5 s) h
def outq19_n5 : Iq19_n5 → (Ex → St → Ans) → Yq19_n5 → Ans := fun (t0,t11,t15,t72,o0_0,o0_1,o0_4,o0_5,o1_0,o1_1,o1_4,o1_5,o3_0,o3_0_2,o4_0,o4_1,o4_2,o4_3,o4_4,o4_5,o4_6,o4_7,o4_8,o4_9,o4_10,o5,o6,o9_4,o9_5,o10,o11,o12,o13,o16,o17) K => unP fun o3_0_y => unP fun o3_0_2_y o12_y => K (Ex.norm) { env := [(0,.ro (.st (.pair (.int .i64) (.pair (.int .i64) (.pair .str (.pair (.int .i64) (.pair (.int .i64) (.pair (.int .i64) (.pair (.pair (.int .i64) (.pair (.int .i64) (.pair (.int .i64) .str))) (.list (.int .i64)))))))))) t0),(7,.ptr 0 0),(8,.ptr 1 0),(9,.ptr 2 0),(10,.ptr 3 0),(11,.int .i64 t11),(12,.ptr 4 0),(15,.int .i64 t15)],stk := [[]],H := [.cells [.ro (.int .i64) o0_0,.ro (.int .i64) o0_1,.own 5,.own 6,.int .i64 o0_4,.int .i64 o0_5],.cells [.ro (.int .i64) o1_0,.ro (.int .i64) o1_1,.own 7,.own 8,.int .i64 o1_4,.int .i64 o1_5],.cells [.ifc 27 (.ptr 0 0),.ifc 27 (.ptr 9 0),.int .i64 (0),.own 10,.own 11],.cells [.sub 12 o3_0_y o3_0_2_y 2,.own 13],.cells [.int .i64 o4_0,.int .i64 o4_1,.str o4_2,.int .i64 o4_3,.int .i64 o4_4,.int .i64 o4_5,.int .i64 o4_6,.int .i64 o4_7,.int .i64 o4_8,.str o4_9,.ro (.int .i64) o4_10],.arr (.st (.pair (.int .i64) (.int .i64))) o5,.arr (.st (.pair (.int .i64) .str)) o6,.arr (.st (.pair (.int .i64) (.int .i64))) ([]),.arr (.st (.pair (.int .i64) .str)) ([]),.cells [.own 14,.own 15,.own 16,.own 17,.int .i64 o9_4,.int .i64 o9_5],.arr (.st (.pair (.int .i64) .str)) o10,.arr (.st (.pair (.int .i64) (.int .i64))) o11,.arr (.st (.pair (.int .i64) .str)) o12_y,.arr (.st (.pair (.int .i64) (.int .i64))) o13,.arr (.int .i64) ([]),.arr (.int .i64) ([]),.arr (.st (.pair (.int .i64) (.int .i64))) o16,.arr (.st (.pair (.int .i64) .str)) o17],blk := 16386 }
def nodeq19_n5 {β : Type} : Iq19_n5 → (Yq19_n5 → Option β) → Option β := fun (t0,t11,t15,t72,o0_0,o0_1,o0_4,o0_5,o1_0,o1_1,o1_4,o1_5,o3_0,o3_0_2,o4_0,o4_1,o4_2,o4_3,o4_4,o4_5,o4_6,o4_7,o4_8,o4_9,o4_10,o5,o6,o9_4,o9_5,o10,o11,o12,o13,o16,o17) exit => (bif t72 then (bindO (fnDq33 (o4_1,o4_2,o3_0,o3_0_2,o12,o13)) fun o3 => (exit (nat_lit 0,List.length o3,o3))) else (exit (o3_0,o3_0_2,o12)))
def nodeDq19_n5 (i : Iq19_n5) : Option Yq19_n5 := nodeq19_n5 i some
theorem nodeq19_n5_nat (i : Iq19_n5) (k : Yq19_n5 → Ans) : nodeq19_n5 i k = bindO (nodeDq19_n5 i) k := by
  obtain ⟨t0,t11,t15,t72,o0_0,o0_1,o0_4,o0_5,o1_0,o1_1,o1_4,o1_5,o3_0,o3_0_2,o4_0,o4_1,o4_2,o4_3,o4_4,o4_5,o4_6,o4_7,o4_8,o4_9,o4_10,o5,o6,o9_4,o9_5,o10,o11,o12,o13,o16,o17⟩ := i
  simp only [nodeDq19_n5,nodeq19_n5,bindO_cond,bindO_assoc,bindO_none,bindO_pure,bindO_elim,bindO_unP,bindO_empty]
theorem nodeq19_n5_ok (i : Iq19_n5) (K : Ex → St → Ans) : codeI Try.tab envq19 noHint (codeD Try.tab envq19 noHint 0 64) 70 158 annLq19_n5 Lq19_n5 (weakP 5000000 (exk [0,7,8,9,10,11,12,15] [6] []) K) (Sq19_n5 i) = nodeq19_n5 i (outq19_n5 i K) := by kernel_rfl
theorem GNq19_n5_ok : CSum Try.prog 158 Lq19_n5 (sumN decq19_n5 nodeDq19_n5 outq19_n5) := csum_node mixed tabOk envq19Ok 5000000 (exk [0,7,8,9,10,11,12,15] [6] []) annLq19_n5_ok decq19_n5_ok nodeq19_n5_ok nodeq19_n5_nat
noncomputable def Gq19_n5 : (Ex → St → Ans) → St → Ans := (sumN decq19_n5 nodeDq19_n5 outq19_n5)
theorem Gq19_n5_ok : CSum Try.prog 158 Lq19_n5 Gq19_n5 := GNq19_n5_ok
noncomputable def Lq19_n4 : Code := codeAt [1,1,1,1,1,1,0,1,0,0,1,0,0,1,1,0,1,0,0,1] bq19
noncomputable def annLq19_n4 : Ann := .none
theorem annLq19_n4_ok : AnnOk Try.prog 158 Lq19_n4 annLq19_n4 := (annOk_none _ _ _)
abbrev Iq19_n4 := (List (Int × Int × List UInt8 × Int × Int × Int × (Int × Int × Int × List UInt8) × List Int)) × (Int) × (Int) × (Bool) × (List Int) × (List Int) × (Int) × (Int) × (List Int) × (List Int) × (Int) × (Int) × (Nat) × (Nat) × (Int) × (Int) × (List UInt8) × (Int) × (Int) × (Int) × (Int) × (Int) × (Int) × (List UInt8) × (List Int) × (List (Int × Int)) × (List (Int × List UInt8)) × (Int) × (Int) × (List (Int × List UInt8)) × (List (Int × Int)) × (List (Int × List UInt8)) × (List (Int × Int)) × (List (Int × Int)) × (List (Int × List UInt8))
abbrev Yq19_n4 := (Bool)
def Sq19_n4 : Iq19_n4 → St := fun (t0,t11,t62,t63,o0_0,o0_1,o0_4,o0_5,o1_0,o1_1,o1_4,o1_5,o3_0,o3_0_2,o4_0,o4_1,o4_2,o4_3,o4_4,o4_5,o4_6,o4_7,o4_8,o4_9,o4_10,o5,o6,o9_4,o9_5,o10,o11,o12,o13,o16,o17) => { env := [(0,.ro (.st (.pair (.int .i64) (.pair (.int .i64) (.pair .str (.pair (.int .i64) (.pair (.int .i64) (.pair (.int .i64) (.pair (.pair (.int .i64) (.pair (.int .i64) (.pair (.int .i64) .str))) (.list (.int .i64)))))))))) t0),(7,.ptr 0 0),(8,.ptr 1 0),(9,.ptr 2 0),(10,.ptr 3 0),(11,.int .i64 t11),(12,.ptr 4 0),(13,.bool (true)),(62,.int .i64 t62),(63,.bool t63)],stk := [[]],H := [.cells [.ro (.int .i64) o0_0,.ro (.int .i64) o0_1,.own 5,.own 6,.int .i64 o0_4,.int .i64 o0_5],.cells [.ro (.int .i64) o1_0,.ro (.int .i64) o1_1,.own 7,.own 8,.int .i64 o1_4,.int .i64 o1_5],.cells [.ifc 27 (.ptr 0 0),.ifc 27 (.ptr 9 0),.int .i64 (0),.own 10,.own 11],.cells [.sub 12 o3_0 o3_0_2 2,.own 13],.cells [.int .i64 o4_0,.int .i64 o4_1,.str o4_2,.int .i64 o4_3,.int .i64 o4_4,.int .i64 o4_5,.int .i64 o4_6,.int .i64 o4_7,.int .i64 o4_8,.str o4_9,.ro (.int .i64) o4_10],.arr (.st (.pair (.int .i64) (.int .i64))) o5,.arr (.st (.pair (.int .i64) .str)) o6,.arr (.st (.pair (.int .i64) (.int .i64))) ([]),.arr (.st (.pair (.int .i64) .str)) ([]),.cells [.own 14,.own 15,.own 16,.own 17,.int .i64 o9_4,.int .i64 o9_5],.arr (.st (.pair (.int .i64) .str)) o10,.arr (.st (.pair (.int .i64) (.int .i64))) o11,.arr (.st (.pair (.int .i64) .str)) o12,.arr (.st (.pair (.int .i64) (.int .i64))) o13,.arr (.int .i64) ([]),.arr (.int .i64) ([]),.arr (.st (.pair (.int .i64) (.int .i64))) o16,.arr (.st (.pair (.int .i64) .str)) o17],blk := 16386 }
def decPq19_n4 (s : St) : Option {x : Iq19_n4 // s = Sq19_n4 x} := match s with
  | { env := [(0,.ro (.st (.pair (.int .i64) (.pair (.int .i64) (.pair .str (.pair (.int .i64) (.pair (.int .i64) (.pair (.int .i64) (.pair (.pair (.int .i64) (.pair (.int .i64) (.pair (.int .i64) .str))) (.list (.int .i64)))))))))) t0),(7,.ptr 0 0),(8,.ptr 1 0),(9,.ptr 2 0),(10,.ptr 3 0),(11,.int .i64 t11),(12,.ptr 4 0),(13,.bool r2),(62,.int .i64 t62),(63,.bool t63)],stk := [[]],H := [.cells [.ro (.int .i64) o0_0,.ro (.int .i64) o0_1,.own 5,.own 6,.int .i64 o0_4,.int .i64 o0_5],.cells [.ro (.int .i64) o1_0,.ro (.int .i64) o1_1,.own 7,.own 8,.int .i64 o1_4,.int .i64 o1_5],.cells [.ifc 27 (.ptr 0 0),.ifc 27 (.ptr 9 0),.int .i64 r13,.own 10,.own 11],.cells [.sub 12 o3_0 o3_0_2 2,.own 13],.cells [.int .i64 o4_0,.int .i64 o4_1,.str o4_2,.int .i64 o4_3,.int .i64 o4_4,.int .i64 o4_5,.int .i64 o4_6,.int .i64 o4_7,.int .i64 o4_8,.str o4_9,.ro (.int .i64) o4_10],.arr (.st (.pair (.int .i64) (.int .i64))) o5,.arr (.st (.pair (.int .i64) .str)) o6,.arr (.st (.pair (.int .i64) (.int .i64))) r29,.arr (.st (.pair (.int .i64) .str)) r30,.cells [.own 14,.own 15,.own 16,.own 17,.int .i64 o9_4,.int .i64 o9_5],.arr (.st (.pair (.int .i64) .str)) o10,.arr (.st (.pair (.int .i64) (.int .i64))) o11,.arr (.st (.pair (.int .i64) .str)) o12,.arr (.st (.pair (.int .i64) (.int .i64))) o13,.arr (.int .i64) r37,.arr (.int .i64) r38,.arr (.st (.pair (.int .i64) (.int .i64))) o16,.arr (.st (.pair (.int .i64) .str)) o17],blk := 16386 } => if h2 : r2 = true then if h13 : r13 = 0 then if h29 : r29 = [] then if h30 : r30 = [] then if h37 : r37 = [] then if h38 : r38 = [] then some ⟨(t0,t11,t62,t63,o0_0,o0_1,o0_4,o0_5,o1_0,o1_1,o1_4,o1_5,o3_0,o3_0_2,o4_0,o4_1,o4_2,o4_3,o4_4,o4_5,o4_6,o4_7,o4_8,o4_9,o4_10,o5,o6,o9_4,o9_5,o10,o11,o12,o13,o16,o17),by subst h2 h13 h29 h30 h37 h38; rfl⟩ else none else none else none else none else none else none
  | _ => none
def decq19_n4 (s : St) : Option Iq19_n4 := pk (decPq19_n4 s)
theorem decq19_n4_ok (s : St) (x : Iq19_n4) (h : decq19_n4 s = some x) : s = Sq19_n4 x := pk_ok (o := decPq19_n4 s) h
def outq19_n4 : Iq19_n4 → (Ex → St → Ans) → Yq19_n4 → Ans := fun (t0,t11,t62,t63,o0_0,o0_1,o0_4,o0_5,o1_0,o1_1,o1_4,o1_5,o3_0,o3_0_2,o4_0,o4_1,o4_2,o4_3,o4_4,o4_5,o4_6,o4_7,o4_8,o4_9,o4_10,o5,o6,o9_4,o9_5,o10,o11,o12,o13,o16,o17) K => fun t63_y => K (Ex.norm) { env := [(0,.ro (.st (.pair (.int .i64) (.pair (.int .i64) (.pair .str (.pair (.int .i64) (.pair (.int .i64) (.pair (.int .i64) (.pair (.pair (.int .i64) (.pair (.int .i64) (.pair (.int .i64) .str))) (.list (.int .i64)))))))))) t0),(7,.ptr 0 0),(8,.ptr 1 0),(9,.ptr 2 0),(10,.ptr 3 0),(11,.int .i64 t11),(12,.ptr 4 0),(13,.bool (true)),(62,.int .i64 t62),(63,.bool t63_y)],stk := [[]],H := [.cells [.ro (.int .i64) o0_0,.ro (.int .i64) o0_1,.own 5,.own 6,.int .i64 o0_4,.int .i64 o0_5],.cells [.ro (.int .i64) o1_0,.ro (.int .i64) o1_1,.own 7,.own 8,.int .i64 o1_4,.int .i64 o1_5],.cells [.ifc 27 (.ptr 0 0),.ifc 27 (.ptr 9 0),.int .i64 (0),.own 10,.own 11],.cells [.sub 12 o3_0 o3_0_2 2,.own 13],.cells [.int .i64 o4_0,.int .i64 o4_1,.str o4_2,.int .i64 o4_3,.int .i64 o4_4,.int .i64 o4_5,.int .i64 o4_6,.int .i64 o4_7,.int .i64 o4_8,.str o4_9,.ro (.int .i64) o4_10],.arr (.st (.pair (.int .i64) (.int .i64))) o5,.arr (.st (.pair (.int .i64) .str)) o6,.arr (.st (.pair (.int .i64) (.int .i64))) ([]),.arr (.st (.pair (.int .i64) .str)) ([]),.cells [.own 14,.own 15,.own 16,.own 17,.int .i64 o9_4,.int .i64 o9_5],.arr (.st (.pair (.int .i64) .str)) o10,.arr (.st (.pair (.int .i64) (.int .i64))) o11,.arr (.st (.pair (.int .i64) .str)) o12,.arr (.st (.pair (.int .i64) (.int .i64))) o13,.arr (.int .i64) ([]),.arr (.int .i64) ([]),.arr (.st (.pair (.int .i64) (.int .i64))) o16,.arr (.st (.pair (.int .i64) .str)) o17],blk := 16386 }
def nodeq19_n4 {β : Type} : Iq19_n4 → (Yq19_n4 → Option β) → Option β := fun (t0,t11,t62,t63,o0_0,o0_1,o0_4,o0_5,o1_0,o1_1,o1_4,o1_5,o3_0,o3_0_2,o4_0,o4_1,o4_2,o4_3,o4_4,o4_5,o4_6,o4_7,o4_8,o4_9,o4_10,o5,o6,o9_4,o9_5,o10,o11,o12,o13,o16,o17) exit => (bif t63 then (exit (t63)) else (exit (t62 == (1 : Int))))
def nodeDq19_n4 (i : Iq19_n4) : Option Yq19_n4 := nodeq19_n4 i some
theorem nodeq19_n4_nat (i : Iq19_n4) (k : Yq19_n4 → Ans) : nodeq19_n4 i k = bindO (nodeDq19_n4 i) k := by
  obtain ⟨t0,t11,t62,t63,o0_0,o0_1,o0_4,o0_5,o1_0,o1_1,o1_4,o1_5,o3_0,o3_0_2,o4_0,o4_1,o4_2,o4_3,o4_4,o4_5,o4_6,o4_7,o4_8,o4_9,o4_10,o5,o6,o9_4,o9_5,o10,o11,o12,o13,o16,o17⟩ := i
  simp only [nodeDq19_n4,nodeq19_n4,bindO_cond,bindO_assoc,bindO_none,bindO_pure,bindO_elim,bindO_unP,bindO_empty]
theorem nodeq19_n4_ok (i : Iq19_n4) (K : Ex → St → Ans) : codeI Try.tab envq19 noHint (codeD Try.tab envq19 noHint 0 64) 70 158 annLq19_n4 Lq19_n4 (weakP 5000000 (exk [0,7,8,9,10,11,12,13,62,63] [6] []) K) (Sq19_n4 i) = nodeq19_n4 i (outq19_n4 i K) := by kernel_rfl
theorem GNq19_n4_ok : CSum Try.prog 158 Lq19_n4 (sumN decq19_n4 nodeDq19_n4 outq19_n4) := csum_node mixed tabOk envq19Ok 5000000 (exk [0,7,8,9,10,11,12,13,62,63] [6] []) annLq19_n4_ok decq19_n4_ok nodeq19_n4_ok nodeq19_n4_nat
noncomputable def Gq19_n4 : (Ex → St → Ans) → St → Ans := (sumN decq19_n4 nodeDq19_n4 outq19_n4)
theorem Gq19_n4_ok : CSum Try.prog 158 Lq19_n4 Gq19_n4 := GNq19_n4_ok
noncomputable def Lq19_n3 : Code := codeAt [1,1,1,1,1,1,0,1,0,0,1,0,0,1,1,0,1] bq19
noncomputable def annLq19_n3 : Ann := (.block (.seq (.seq .none (.cut 5000000 [0,7,8,9,10,11,12,13,62,63] Gq19_n4)) (.cond (.seq .none (.seq (.seq .none (.cut 5000000 [0,7,8,9,10,11,12,15,72] Gq19_n5)) .none)) (.seq .none (.cond (.seq .none (.seq .none (.seq (.cut 5000000 [0,7,8,9,10,11,16,17,18,19] Gq19_n6) .none))) .none)))))
theorem annLq19_n3_ok : AnnOk Try.prog 158 Lq19_n3 annLq19_n3 := ⟨⟨(annOk_none _ _ _),Gq19_n4_ok⟩,⟨⟨(annOk_none _ _ _),⟨⟨(annOk_none _ _ _),Gq19_n5_ok⟩,(annOk_none _ _ _)⟩⟩,⟨(annOk_none _ _ _),⟨⟨(annOk_none _ _ _),⟨(annOk_none _ _ _),⟨Gq19_n6_ok,(annOk_none _ _ _)⟩⟩⟩,(annOk_none _ _ _)⟩⟩⟩⟩
abbrev Iq19_n3 := (List (Int × Int × List UInt8 × Int × Int × Int × (Int × Int × Int × List UInt8) × List Int)) × (Int) × (Int) × (List Int) × (List Int) × (Int) × (Int) × (List Int) × (List Int) × (Int) × (Int) × (Nat) × (Nat) × (Int) × (Int) × (List UInt8) × (Int) × (Int) × (Int) × (Int) × (Int) × (Int) × (List UInt8) × (List Int) × (List (Int × Int)) × (List (Int × List UInt8)) × (Int) × (Int) × (List (Int × List UInt8)) × (List (Int × Int)) × (List (Int × List UInt8)) × (List (Int × Int)) × (List (Int × Int)) × (List (Int × List UInt8))
abbrev Yq19_n3 := (Bool) × (Int) × (Int) × (Int) × (Int) × (Nat) × (Nat) × (List (Int × Int)) × (List (Int × List UInt8)) × (Int) × (Int) × (List (Int × List UInt8)) × (List (Int × Int)) × (List (Int × List UInt8)) × (List (Int × Int)) × (List (Int × Int)) × (List (Int × List UInt8))
def Sq19_n3 : Iq19_n3 → St := fun (t0,t11,t62,o0_0,o0_1,o0_4,o0_5,o1_0,o1_1,o1_4,o1_5,o3_0,o3_0_2,o4_0,o4_1,o4_2,o4_3,o4_4,o4_5,o4_6,o4_7,o4_8,o4_9,o4_10,o5,o6,o9_4,o9_5,o10,o11,o12,o13,o16,o17) => { env := [(0,.ro (.st (.pair (.int .i64) (.pair (.int .i64) (.pair .str (.pair (.int .i64) (.pair (.int .i64) (.pair (.int .i64) (.pair (.pair (.int .i64) (.pair (.int .i64) (.pair (.int .i64) .str))) (.list (.int .i64)))))))))) t0),(7,.ptr 0 0),(8,.ptr 1 0),(9,.ptr 2 0),(10,.ptr 3 0),(11,.int .i64 t11),(12,.ptr 4 0),(13,.bool (true)),(62,.int .i64 t62)],stk := [[]],H := [.cells [.ro (.int .i64) o0_0,.ro (.int .i64) o0_1,.own 5,.own 6,.int .i64 o0_4,.int .i64 o0_5],.cells [.ro (.int .i64) o1_0,.ro (.int .i64) o1_1,.own 7,.own 8,.int .i64 o1_4,.int .i64 o1_5],.cells [.ifc 27 (.ptr 0 0),.ifc 27 (.ptr 9 0),.int .i64 (0),.own 10,.own 11],.cells [.sub 12 o3_0 o3_0_2 2,.own 13],.cells [.int .i64 o4_0,.int .i64 o4_1,.str o4_2,.int .i64 o4_3,.int .i64 o4_4,.int .i64 o4_5,.int .i64 o4_6,.int .i64 o4_7,.int .i64 o4_8,.str o4_9,.ro (.int .i64) o4_10],.arr (.st (.pair (.int .i64) (.int .i64))) o5,.arr (.st (.pair (.int .i64) .str)) o6,.arr (.st (.pair (.int .i64) (.int .i64))) ([]),.arr (.st (.pair (.int .i64) .str)) ([]),.cells [.own 14,.own 15,.own 16,.own 17,.int .i64 o9_4,.int .i64 o9_5],.arr (.st (.pair (.int .i64) .str)) o10,.arr (.st (.pair (.int .i64) (.int .i64))) o11,.arr (.st (.pair (.int .i64) .str)) o12,.arr (.st (.pair (.int .i64) (.int .i64))) o13,.arr (.int .i64) ([]),.arr (.int .i64) ([]),.arr (.st (.pair (.int .i64) (.int .i64))) o16,.arr (.st (.pair (.int .i64) .str)) o17],blk := 16385 }
def decPq19_n3 (s : St) : Option {x : Iq19_n3 // s = Sq19_n3 x} := match s with
  | { env := [(0,.ro (.st (.pair (.int .i64) (.pair (.int .i64) (.pair .str (.pair (.int .i64) (.pair (.int .i64) (.pair (.int .i64) (.pair (.pair (.int .i64) (.pair (.int .i64) (.pair (.int .i64) .str))) (.list (.int .i64)))))))))) t0),(7,.ptr 0 0),(8,.ptr 1 0),(9,.ptr 2 0),(10,.ptr 3 0),(11,.int .i64 t11),(12,.ptr 4 0),(13,.bool r2),(62,.int .i64 t62)],stk := [[]],H := [.cells [.ro (.int .i64) o0_0,.ro (.int .i64) o0_1,.own 5,.own 6,.int .i64 o0_4,.int .i64 o0_5],.cells [.ro (.int .i64) o1_0,.ro (.int .i64) o1_1,.own 7,.own 8,.int .i64 o1_4,.int .i64 o1_5],.cells [.ifc 27 (.ptr 0 0),.ifc 27 (.ptr 9 0),.int .i64 r12,.own 10,.own 11],.cells [.sub 12 o3_0 o3_0_2 2,.own 13],.cells [.int .i64 o4_0,.int .i64 o4_1,.str o4_2,.int .i64 o4_3,.int .i64 o4_4,.int .i64 o4_5,.int .i64 o4_6,.int .i64 o4_7,.int .i64 o4_8,.str o4_9,.ro (.int .i64) o4_10],.arr (.st (.pair (.int .i64) (.int .i64))) o5,.arr (.st (.pair (.int .i64) .str)) o6,.arr (.st (.pair (.int .i64) (.int .i64))) r28,.arr (.st (.pair (.int .i64) .str)) r29,.cells [.own 14,.own 15,.own 16,.own 17,.int .i64 o9_4,.int .i64 o9_5],.arr (.st (.pair (.int .i64) .str)) o10,.arr (.st (.pair (.int .i64) (.int .i64))) o11,.arr (.st (.pair (.int .i64) .str)) o12,.arr (.st (.pair (.int .i64) (.int .i64))) o13,.arr (.int .i64) r36,.arr (.int .i64) r37,.arr (.st (.pair (.int .i64) (.int .i64))) o16,.arr (.st (.pair (.int .i64) .str)) o17],blk := 16385 } => if h2 : r2 = true then if h12 : r12 = 0 then if h28 : r28 = [] then if h29 : r29 = [] then if h36 : r36 = [] then if h37 : r37 = [] then some ⟨(t0,t11,t62,o0_0,o0_1,o0_4,o0_5,o1_0,o1_1,o1_4,o1_5,o3_0,o3_0_2,o4_0,o4_1,o4_2,o4_3,o4_4,o4_5,o4_6,o4_7,o4_8,o4_9,o4_10,o5,o6,o9_4,o9_5,o10,o11,o12,o13,o16,o17),by subst h2 h12 h28 h29 h36 h37; rfl⟩ else none else none else none else none else none else none
  | _ => none
def decq19_n3 (s : St) : Option Iq19_n3 := pk (decPq19_n3 s)
theorem decq19_n3_ok (s : St) (x : Iq19_n3) (h : decq19_n3 s = some x) : s = Sq19_n3 x := pk_ok (o := decPq19_n3 s) h
def outq19_n3 : Iq19_n3 → (Ex → St → Ans) → Yq19_n3 → Ans := fun (t0,t11,t62,o0_0,o0_1,o0_4,o0_5,o1_0,o1_1,o1_4,o1_5,o3_0,o3_0_2,o4_0,o4_1,o4_2,o4_3,o4_4,o4_5,o4_6,o4_7,o4_8,o4_9,o4_10,o5,o6,o9_4,o9_5,o10,o11,o12,o13,o16,o17) K => unP fun t13_y => unP fun o0_4_y => unP fun o0_5_y => unP fun o1_4_y => unP fun o1_5_y => unP fun o3_0_y => unP fun o3_0_2_y => unP fun o4_y => unP fun o5_y => unP fun o8_4_y => unP fun o8_5_y => unP fun o9_y => unP fun o10_y => unP fun o11_y => unP fun o12_y => unP fun o15_y o16_y => K (Ex.norm) { env := [(0,.ro (.st (.pair (.int .i64) (.pair (.int .i64) (.pair .str (.pair (.int .i64) (.pair (.int .i64) (.pair (.int .i64) (.pair (.pair (.int .i64) (.pair (.int .i64) (.pair (.int .i64) .str))) (.list (.int .i64)))))))))) t0),(7,.ptr 0 0),(8,.ptr 1 0),(9,.ptr 2 0),(10,.ptr 3 0),(11,.int .i64 t11),(13,.bool t13_y)],stk := [[]],H := [.cells [.ro (.int .i64) o0_0,.ro (.int .i64) o0_1,.own 4,.own 5,.int .i64 o0_4_y,.int .i64 o0_5_y],.cells [.ro (.int .i64) o1_0,.ro (.int .i64) o1_1,.own 6,.own 7,.int .i64 o1_4_y,.int .i64 o1_5_y],.cells [.ifc 27 (.ptr 0 0),.ifc 27 (.ptr 8 0),.int .i64 (0),.own 9,.own 10],.cells [.sub 11 o3_0_y o3_0_2_y 2,.own 12],.arr (.st (.pair (.int .i64) (.int .i64))) o4_y,.arr (.st (.pair (.int .i64) .str)) o5_y,.arr (.st (.pair (.int .i64) (.int .i64))) ([]),.arr (.st (.pair (.int .i64) .str)) ([]),.cells [.own 13,.own 14,.own 15,.own 16,.int .i64 o8_4_y,.int .i64 o8_5_y],.arr (.st (.pair (.int .i64) .str)) o9_y,.arr (.st (.pair (.int .i64) (.int .i64))) o10_y,.arr (.st (.pair (.int .i64) .str)) o11_y,.arr (.st (.pair (.int .i64) (.int .i64))) o12_y,.arr (.int .i64) ([]),.arr (.int .i64) ([]),.arr (.st (.pair (.int .i64) (.int .i64))) o15_y,.arr (.st (.pair (.int .i64) .str)) o16_y],blk := 16386 }
def nodeq19_n3 {β : Type} : Iq19_n3 → (Yq19_n3 → Option β) → Option β := fun (t0,t11,t62,o0_0,o0_1,o0_4,o0_5,o1_0,o1_1,o1_4,o1_5,o3_0,o3_0_2,o4_0,o4_1,o4_2,o4_3,o4_4,o4_5,o4_6,o4_7,o4_8,o4_9,o4_10,o5,o6,o9_4,o9_5,o10,o11,o12,o13,o16,o17) exit => (bindO (nodeDq19_n4 (t0,t11,t62,t62 == (0 : Int),o0_0,o0_1,o0_4,o0_5,o1_0,o1_1,o1_4,o1_5,o3_0,o3_0_2,o4_0,o4_1,o4_2,o4_3,o4_4,o4_5,o4_6,o4_7,o4_8,o4_9,o4_10,o5,o6,o9_4,o9_5,o10,o11,o12,o13,o16,o17)) fun t63 => (bif t63 then (bindO (fnDq28 (o1_0,o1_1,o1_4,o1_5,[],[])) (unP fun r_0_0 => unP fun r_0_1 => unP fun r_1 => unP fun o0_4_2 o0_5_2 => (bindO (nodeDq19_n5 (t0,t11,r_1,r_1 == (0 : Int),o0_0,o0_1,o0_4,o0_5,o1_0,o1_1,o0_4_2,o0_5_2,o3_0,o3_0_2,o4_0,o4_1,o4_2,o4_3,o4_4,o4_5,o4_6,o4_7,o4_8,o4_9,o4_10,o5,o6,o9_4,o9_5,o10,o11,o12,o13,o16,o17)) (unP fun o3_0_3 => unP fun o3_0_2_2 o12_2 => (bindO (fnDq10 (o4_1,o4_2,(0 : Int),o0_0,o0_1,o0_4,o0_5,o9_4,o9_5,o10,o11,o5,o6,[],[],o16,o17)) (Sum.elim (unP fun r => unP fun o1_4_2 => unP fun o1_5_2 => unP fun o2_4 => unP fun o2_5 o3 => (exit (r == r_1,o1_4_2,o1_5_2,o0_4_2,o0_5_2,o3_0_3,o3_0_2_2,o5,o6,o2_4,o2_5,o3,o11,o12_2,o13,o16,o17))) ((Sum.elim (unP fun r => unP fun o1_4_2 => unP fun o1_5_2 => unP fun o3 o11_2 => (exit (r == r_1,o1_4_2,o1_5_2,o0_4_2,o0_5_2,o3_0_3,o3_0_2_2,o5,o11_2,o9_4,o9_5,o3,o11,o12_2,o13,o16,o17))) (unP fun r => unP fun o2_4 => unP fun o2_5 => unP fun o3 o11_2 => (exit (r == r_1,o0_4,o0_5,o0_4_2,o0_5_2,o3_0_3,o3_0_2_2,o5,o6,o2_4,o2_5,o3,o11,o12_2,o13,o16,o11_2))))))))))) else (bif t62 == (2 : Int) then (bindO (fnDq28 (o1_0,o1_1,o1_4,o1_5,[],[])) (unP fun r_0_0 => unP fun r_0_1 => unP fun r_1 => unP fun o0_4_2 o0_5_2 => (bindO (fnDq3 ((0 : Int),o0_0,o0_1,o0_4,o0_5,o9_4,o9_5,o10,o11,o5,o6,[],[],o16,o17)) (Sum.elim (unP fun r_1_2 => unP fun o1_4_2 => unP fun o1_5_2 => unP fun o2_4 => unP fun o2_5 o4 => (bindO (nodeDq19_n6 (t0,t11,r_1,false,r_1_2,o0_0,o0_1,o1_4_2,o1_5_2,o1_0,o1_1,o0_4_2,o0_5_2,o3_0,o3_0_2,r_0_0,r_0_1,o5,o6,o2_4,o2_5,o10,o4,o12,o13,o16,o17)) fun t13 => (bif r_1 == (0 : Int) then (bif t13 then (bindO (fnDq32 (r_0_0,r_0_1,o3_0,o3_0_2,o12,o13)) (Sum.elim (fun _ => (exit (false,o1_4_2,o1_5_2,o0_4_2,o0_5_2,nat_lit 0,nat_lit 0,o5,o6,o2_4,o2_5,o10,o4,[],[],o16,o17))) ((Sum.elim (fun _ => (exit (true,o1_4_2,o1_5_2,o0_4_2,o0_5_2,o3_0,o3_0_2,o5,o6,o2_4,o2_5,o10,o4,o12,o13,o16,o17))) (fun o3 => (exit (true,o1_4_2,o1_5_2,o0_4_2,o0_5_2,o3_0,o3_0_2,o5,o6,o2_4,o2_5,o10,o4,o12,o3,o16,o17))))))) else (exit (false,o1_4_2,o1_5_2,o0_4_2,o0_5_2,o3_0,o3_0_2,o5,o6,o2_4,o2_5,o10,o4,o12,o13,o16,o17))) else (exit (t13,o1_4_2,o1_5_2,o0_4_2,o0_5_2,o3_0,o3_0_2,o5,o6,o2_4,o2_5,o10,o4,o12,o13,o16,o17))))) (unP fun o1_4_2 => unP fun o1_5_2 => unP fun o2_4 => unP fun o2_5 => unP fun o4 o11_2 => (bindO (nodeDq19_n6 (t0,t11,r_1,true,(0 : Int),o0_0,o0_1,o1_4_2,o1_5_2,o1_0,o1_1,o0_4_2,o0_5_2,o3_0,o3_0_2,r_0_0,r_0_1,o5,o6,o2_4,o2_5,o11_2,[],o12,o13,o16,o17)) fun t13 => (bif r_1 == (0 : Int) then (bif t13 then (bindO (fnDq32 (r_0_0,r_0_1,o3_0,o3_0_2,o12,o13)) (Sum.elim (fun _ => (exit (true,o1_4_2,o1_5_2,o0_4_2,o0_5_2,nat_lit 0,nat_lit 0,o5,o6,o2_4,o2_5,o11_2,[],[],[],o16,o17))) ((Sum.elim (fun _ => (exit (false,o1_4_2,o1_5_2,o0_4_2,o0_5_2,o3_0,o3_0_2,o5,o6,o2_4,o2_5,o11_2,[],o12,o13,o16,o17))) (fun o3 => (exit (false,o1_4_2,o1_5_2,o0_4_2,o0_5_2,o3_0,o3_0_2,o5,o6,o2_4,o2_5,o11_2,[],o12,o3,o16,o17))))))) else (exit (false,o1_4_2,o1_5_2,o0_4_2,o0_5_2,o3_0,o3_0_2,o5,o6,o2_4,o2_5,o11_2,[],o12,o13,o16,o17))) else (exit (t13,o1_4_2,o1_5_2,o0_4_2,o0_5_2,o3_0,o3_0_2,o5,o6,o2_4,o2_5,o11_2,[],o12,o13,o16,o17))))))))) else (bif t62 == (3 : Int) then (bindO (fnDq7 ((0 : Int),o0_0,o0_1,o0_4,o0_5,o9_4,o9_5,o10,o11,[(o4_1,IntKind.wrap .i64 ((1 : Int) + Int.tmod (↑(List.length o4_2) : Int) (2 : Int)))],o6,[],[],o16,o17)) (unP fun r => unP fun o11_2 => unP fun o12_2 => unP fun o13_2 o17_2 => (bindO (fnDq31 (o4_1,IntKind.wrap .i64 ((1 : Int) + Int.tmod (↑(List.length o4_2) : Int) (2 : Int)),o3_0,o3_0_2,o12,o13)) (Sum.elim (fun _ => (exit (r == false,o0_4,o0_5,o1_4,o1_5,o3_0,o3_0_2,o13_2,o6,o9_4,o9_5,o11_2,o12_2,o12,o13,o17_2,o17))) (unP fun r_2 => unP fun o0_0_2 => unP fun o0_0_2_2 o3 => (exit (r == r_2,o0_4,o0_5,o1_4,o1_5,o0_0_2,o0_0_2_2,o13_2,o6,o9_4,o9_5,o11_2,o12_2,o12,o3,o17_2,o17))))))) else (exit (true,o0_4,o0_5,o1_4,o1_5,o3_0,o3_0_2,o5,o6,o9_4,o9_5,o10,o11,o12,o13,o16,o17))))))
def nodeDq19_n3 (i : Iq19_n3) : Option Yq19_n3 := nodeq19_n3 i some
theorem nodeq19_n3_nat (i : Iq19_n3) (k : Yq19_n3 → Ans) : nodeq19_n3 i k = bindO (nodeDq19_n3 i) k := by
  obtain ⟨t0,t11,t62,o0_0,o0_1,o0_4,o0_5,o1_0,o1_1,o1_4,o1_5,o3_0,o3_0_2,o4_0,o4_1,o4_2,o4_3,o4_4,o4_5,o4_6,o4_7,o4_8,o4_9,o4_10,o5,o6,o9_4,o9_5,o10,o11,o12,o13,o16,o17⟩ := i
  simp only [nodeDq19_n3,nodeq19_n3,bindO_cond,bindO_assoc,bindO_none,bindO_pure,bindO_elim,bindO_unP,bindO_empty]
theorem nodeq19_n3_ok (i : Iq19_n3) (K : Ex → St → Ans) : codeI Try.tab envq19 noHint (codeD Try.tab envq19 noHint 0 64) 70 158 annLq19_n3 Lq19_n3 (weakP 5000000 (exk [0,7,8,9,10,11,13] [6] []) K) (Sq19_n3 i) = nodeq19_n3 i (outq19_n3 i K) := by kernel_rfl
theorem GNq19_n3_ok : CSum Try.prog 158 Lq19_n3 (sumN decq19_n3 nodeDq19_n3 outq19_n3) := csum_node mixed tabOk envq19Ok 5000000 (exk [0,7,8,9,10,11,13] [6] []) annLq19_n3_ok decq19_n3_ok nodeq19_n3_ok nodeq19_n3_nat
noncomputable def Gq19_n3 : (Ex → St → Ans) → St → Ans := (sumN decq19_n3 nodeDq19_n3 outq19_n3)
theorem Gq19_n3_ok : CSum Try.prog 158 Lq19_n3 Gq19_n3 := GNq19_n3_ok
noncomputable def Lq19_n2 : Code := codeAt [1,1,1,1,1,1,0,1,0,0,1,0] bq19
noncomputable def annLq19_n2 : Ann := (.block (.seq .none (.seq .none (.seq (.seq .none (.cut 5000000 [0,7,8,9,10,11,12,13,62] Gq19_n3)) (.seq (.cut 5000000 [0,7,8,9,10,11,13] Gq19_n7) .none)))))
theorem annLq19_n2_ok : AnnOk Try.prog 158 Lq19_n2 annLq19_n2 := ⟨(annOk_none _ _ _),⟨(annOk_none _ _ _),⟨⟨(annOk_none _ _ _),Gq19_n3_ok⟩,⟨Gq19_n7_ok,(annOk_none _ _ _)⟩⟩⟩⟩
abbrev Iq19_n2 := (List (Int × Int × List UInt8 × Int × Int × Int × (Int × Int × Int × List UInt8) × List Int)) × (Int) × (List Int) × (List Int) × (Int) × (Int) × (List Int) × (List Int) × (Int) × (Int) × (Nat) × (Nat) × (List (Int × Int)) × (List (Int × List UInt8)) × (Int) × (Int) × (List (Int × List UInt8)) × (List (Int × Int)) × (List (Int × List UInt8)) × (List (Int × Int)) × (List (Int × Int)) × (List (Int × List UInt8))
abbrev Yq19_n2 := (Unit) ⊕ ((Int) × (Int) × (Int) × (Int) × (Nat) × (Nat) × (List (Int × Int)) × (List (Int × List UInt8)) × (Int) × (Int) × (List (Int × List UInt8)) × (List (Int × Int)) × (List (Int × List UInt8)) × (List (Int × Int)) × (List (Int × Int)) × (List (Int × List UInt8)))
def Sq19_n2 : Iq19_n2 → St := fun (t0,t11,o0_0,o0_1,o0_4,o0_5,o1_0,o1_1,o1_4,o1_5,o3_0,o3_0_2,o4,o5,o8_4,o8_5,o9,o10,o11,o12,o15,o16) => { env := [(0,.ro (.st (.pair (.int .i64) (.pair (.int .i64) (.pair .str (.pair (.int .i64) (.pair (.int .i64) (.pair (.int .i64) (.pair (.pair (.int .i64) (.pair (.int .i64) (.pair (.int .i64) .str))) (.list (.int .i64)))))))))) t0),(7,.ptr 0 0),(8,.ptr 1 0),(9,.ptr 2 0),(10,.ptr 3 0),(11,.int .i64 t11)],stk := [[]],H := [.cells [.ro (.int .i64) o0_0,.ro (.int .i64) o0_1,.own 4,.own 5,.int .i64 o0_4,.int .i64 o0_5],.cells [.ro (.int .i64) o1_0,.ro (.int .i64) o1_1,.own 6,.own 7,.int .i64 o1_4,.int .i64 o1_5],.cells [.ifc 27 (.ptr 0 0),.ifc 27 (.ptr 8 0),.int .i64 (0),.own 9,.own 10],.cells [.sub 11 o3_0 o3_0_2 2,.own 12],.arr (.st (.pair (.int .i64) (.int .i64))) o4,.arr (.st (.pair (.int .i64) .str)) o5,.arr (.st (.pair (.int .i64) (.int .i64))) ([]),.arr (.st (.pair (.int .i64) .str)) ([]),.cells [.own 13,.own 14,.own 15,.own 16,.int .i64 o8_4,.int .i64 o8_5],.arr (.st (.pair (.int .i64) .str)) o9,.arr (.st (.pair (.int .i64) (.int .i64))) o10,.arr (.st (.pair (.int .i64) .str)) o11,.arr (.st (.pair (.int .i64) (.int .i64))) o12,.arr (.int .i64) ([]),.arr (.int .i64) ([]),.arr (.st (.pair (.int .i64) (.int .i64))) o15,.arr (.st (.pair (.int .i64) .str)) o16],blk := 16384 }
def decPq19_n2 (s : St) : Option {x : Iq19_n2 // s = Sq19_n2 x} := match s with
  | { env := [(0,.ro (.st (.pair (.int .i64) (.pair (.int .i64) (.pair .str (.pair (.int .i64) (.pair (.int .i64) (.pair (.int .i64) (.pair (.pair (.int .i64) (.pair (.int .i64) (.pair (.int .i64) .str))) (.list (.int .i64)))))))))) t0),(7,.ptr 0 0),(8,.ptr 1 0),(9,.ptr 2 0),(10,.ptr 3 0),(11,.int .i64 t11)],stk := [[]],H := [.cells [.ro (.int .i64) o0_0,.ro (.int .i64) o0_1,.own 4,.own 5,.int .i64 o0_4,.int .i64 o0_5],.cells [.ro (.int .i64) o1_0,.ro (.int .i64) o1_1,.own 6,.own 7,.int .i64 o1_4,.int .i64 o1_5],.cells [.ifc 27 (.ptr 0 0),.ifc 27 (.ptr 8 0),.int .i64 r10,.own 9,.own 10],.cells [.sub 11 o3_0 o3_0_2 2,.own 12],.arr (.st (.pair (.int .i64) (.int .i64))) o4,.arr (.st (.pair (.int .i64) .str)) o5,.arr (.st (.pair (.int .i64) (.int .i64))) r15,.arr (.st (.pair (.int .i64) .str)) r16,.cells [.own 13,.own 14,.own 15,.own 16,.int .i64 o8_4,.int .i64 o8_5],.arr (.st (.pair (.int .i64) .str)) o9,.arr (.st (.pair (.int .i64) (.int .i64))) o10,.arr (.st (.pair (.int .i64) .str)) o11,.arr (.st (.pair (.int .i64) (.int .i64))) o12,.arr (.int .i64) r23,.arr (.int .i64) r24,.arr (.st (.pair (.int .i64) (.int .i64))) o15,.arr (.st (.pair (.int .i64) .str)) o16],blk := 16384 } => if h10 : r10 = 0 then if h15 : r15 = [] then if h16 : r16 = [] then if h23 : r23 = [] then if h24 : r24 = [] then some ⟨(t0,t11,o0_0,o0_1,o0_4,o0_5,o1_0,o1_1,o1_4,o1_5,o3_0,o3_0_2,o4,o5,o8_4,o8_5,o9,o10,o11,o12,o15,o16),by subst h10 h15 h16 h23 h24; rfl⟩ else none else none else none else none else none
  | _ => none
def decq19_n2 (s : St) : Option Iq19_n2 := pk (decPq19_n2 s)
theorem decq19_n2_ok (s : St) (x : Iq19_n2) (h : decq19_n2 s = some x) : s = Sq19_n2 x := pk_ok (o := decPq19_n2 s) h
def outq19_n2 : Iq19_n2 → (Ex → St → Ans) → Yq19_n2 → Ans := fun (t0,t11,o0_0,o0_1,o0_4,o0_5,o1_0,o1_1,o1_4,o1_5,o3_0,o3_0_2,o4,o5,o8_4,o8_5,o9,o10,o11,o12,o15,o16) K => (Sum.elim (fun _ => K (Ex.ret) { env := [(6,.bool (false))],stk := [[]],H := [],blk := 16386 }) (unP fun o0_4_y => unP fun o0_5_y => unP fun o1_4_y => unP fun o1_5_y => unP fun o3_0_y => unP fun o3_0_2_y => unP fun o4_y => unP fun o5_y => unP fun o8_4_y => unP fun o8_5_y => unP fun o9_y => unP fun o10_y => unP fun o11_y => unP fun o12_y => unP fun o15_y o16_y => K (Ex.norm) { env := [(0,.ro (.st (.pair (.int .i64) (.pair (.int .i64) (.pair .str (.pair (.int .i64) (.pair (.int .i64) (.pair (.int .i64) (.pair (.pair (.int .i64) (.pair (.int .i64) (.pair (.int .i64) .str))) (.list (.int .i64)))))))))) t0),(7,.ptr 0 0),(8,.ptr 1 0),(9,.ptr 2 0),(10,.ptr 3 0),(11,.int .i64 t11)],stk := [[]],H := [.cells [.ro (.int .i64) o0_0,.ro (.int .i64) o0_1,.own 4,.own 5,.int .i64 o0_4_y,.int .i64 o0_5_y],.cells [.ro (.int .i64) o1_0,.ro (.int .i64) o1_1,.own 6,.own 7,.int .i64 o1_4_y,.int .i64 o1_5_y],.cells [.ifc 27 (.ptr 0 0),.ifc 27 (.ptr 8 0),.int .i64 (0),.own 9,.own 10],.cells [.sub 11 o3_0_y o3_0_2_y 2,.own 12],.arr (.st (.pair (.int .i64) (.int .i64))) o4_y,.arr (.st (.pair (.int .i64) .str)) o5_y,.arr (.st (.pair (.int .i64) (.int .i64))) ([]),.arr (.st (.pair (.int .i64) .str)) ([]),.cells [.own 13,.own 14,.own 15,.own 16,.int .i64 o8_4_y,.int .i64 o8_5_y],.arr (.st (.pair (.int .i64) .str)) o9_y,.arr (.st (.pair (.int .i64) (.int .i64))) o10_y,.arr (.st (.pair (.int .i64) .str)) o11_y,.arr (.st (.pair (.int .i64) (.int .i64))) o12_y,.arr (.int .i64) ([]),.arr (.int .i64) ([]),.arr (.st (.pair (.int .i64) (.int .i64))) o15_y,.arr (.st (.pair (.int .i64) .str)) o16_y],blk := 16386 }))
def nodeq19_n2 {β : Type} : Iq19_n2 → (Yq19_n2 → Option β) → Option β := fun (t0,t11,o0_0,o0_1,o0_4,o0_5,o1_0,o1_1,o1_4,o1_5,o3_0,o3_0_2,o4,o5,o8_4,o8_5,o9,o10,o11,o12,o15,o16) exit => (bindO (nth t0 t11) fun x => (bindO (nodeDq19_n3 (t0,t11,x.fst,o0_0,o0_1,o0_4,o0_5,o1_0,o1_1,o1_4,o1_5,o3_0,o3_0_2,x.fst,x.snd.fst,x.snd.snd.fst,x.snd.snd.snd.fst,x.snd.snd.snd.snd.fst,x.snd.snd.snd.snd.snd.fst,x.snd.snd.snd.snd.snd.snd.fst.fst,x.snd.snd.snd.snd.snd.snd.fst.snd.fst,x.snd.snd.snd.snd.snd.snd.fst.snd.snd.fst,x.snd.snd.snd.snd.snd.snd.fst.snd.snd.snd,x.snd.snd.snd.snd.snd.snd.snd,o4,o5,o8_4,o8_5,o9,o10,o11,o12,o15,o16)) (unP fun t13 => unP fun o0_4_2 => unP fun o0_5_2 => unP fun o1_4_2 => unP fun o1_5_2 => unP fun o3_0_3 => unP fun o3_0_2_2 => unP fun o4_2 => unP fun o5_2 => unP fun o8_4_2 => unP fun o8_5_2 => unP fun o9_2 => unP fun o10_2 => unP fun o11_2 => unP fun o12_2 => unP fun o15_2 o16_2 => (bindO (nodeDq19_n7 (t0,t11,t13,o0_0,o0_1,o0_4_2,o0_5_2,o1_0,o1_1,o1_4_2,o1_5_2,o3_0_3,o3_0_2_2,o4_2,o5_2,o8_4_2,o8_5_2,o9_2,o10_2,o11_2,o12_2,o15_2,o16_2)) fun t157 => (bif t157 then (exit (Sum.inl ())) else (exit (Sum.inr (o0_4_2,o0_5_2,o1_4_2,o1_5_2,o3_0_3,o3_0_2_2,o4_2,o5_2,o8_4_2,o8_5_2,o9_2,o10_2,o11_2,o12_2,o15_2,o16_2))))))))
def nodeDq19_n2 (i : Iq19_n2) : Option Yq19_n2 := nodeq19_n2 i some
theorem nodeq19_n2_nat (i : Iq19_n2) (k : Yq19_n2 → Ans) : nodeq19_n2 i k = bindO (nodeDq19_n2 i) k := by
  obtain ⟨t0,t11,o0_0,o0_1,o0_4,o0_5,o1_0,o1_1,o1_4,o1_5,o3_0,o3_0_2,o4,o5,o8_4,o8_5,o9,o10,o11,o12,o15,o16⟩ := i
  simp only [nodeDq19_n2,nodeq19_n2,bindO_cond,bindO_assoc,bindO_none,bindO_pure,bindO_elim,bindO_unP,bindO_empty]
theorem nodeq19_n2_ok (i : Iq19_n2) (K : Ex → St → Ans) : codeI Try.tab envq19 noHint (codeD Try.tab envq19 noHint 0 64) 70 158 annLq19_n2 Lq19_n2 (weakP 5000000 (exk [0,7,8,9,10,11] [6] []) K) (Sq19_n2 i) = nodeq19_n2 i (outq19_n2 i K) := by kernel_rfl
theorem GNq19_n2_ok : CSum Try.prog 158 Lq19_n2 (sumN decq19_n2 nodeDq19_n2 outq19_n2) := csum_node mixed tabOk envq19Ok 5000000 (exk [0,7,8,9,10,11] [6] []) annLq19_n2_ok decq19_n2_ok nodeq19_n2_ok nodeq19_n2_nat
noncomputable def Gq19_n2 : (Ex → St → Ans) → St → Ans := (sumN decq19_n2 nodeDq19_n2 outq19_n2)
theorem Gq19_n2_ok : CSum Try.prog 158 Lq19_n2 Gq19_n2 := GNq19_n2_ok
noncomputable def Lq19_n1 : Code := codeAt [1,1,1,1,1,1,0,1,0,0] bq19
noncomputable def annLq19_n1 : Ann := .at 5000000 [0,7,8,9,10,11] (.loop (.seq .none (.seq (.cut 5000000 [0,7,8,9,10,11] Gq19_n2) .none)))
theorem annLq19_n1_ok : AnnOk Try.prog 158 (.loop Lq19_n1) annLq19_n1 := annOk_at ⟨(annOk_none _ _ _),⟨Gq19_n2_ok,(annOk_none _ _ _)⟩⟩
abbrev Iq19_n1 := (List (Int × Int × List UInt8 × Int × Int × Int × (Int × Int × Int × List UInt8) × List Int)) × (List Int) × (List Int) × (List Int) × (List Int)
abbrev Yq19_n1 := (Unit) ⊕ (Unit)
abbrev Vq19_n1 := (Int) × (Int) × (Int) × (Int) × (Int) × (Nat) × (Nat) × (List (Int × Int)) × (List (Int × List UInt8)) × (Int) × (Int) × (List (Int × List UInt8)) × (List (Int × Int)) × (List (Int × List UInt8)) × (List (Int × Int)) × (List (Int × Int)) × (List (Int × List UInt8))
def Sq19_n1 : Iq19_n1 → Vq19_n1 → St := fun (t0,o0_0,o0_1,o1_0,o1_1) (t11,o0_4,o0_5,o1_4,o1_5,o3_0,o3_0_2,o4,o5,o8_4,o8_5,o9,o10,o11,o12,o15,o16) => { env := [(0,.ro (.st (.pair (.int .i64) (.pair (.int .i64) (.pair .str (.pair (.int .i64) (.pair (.int .i64) (.pair (.int .i64) (.pair (.pair (.int .i64) (.pair (.int .i64) (.pair (.int .i64) .str))) (.list (.int .i64)))))))))) t0),(7,.ptr 0 0),(8,.ptr 1 0),(9,.ptr 2 0),(10,.ptr 3 0),(11,.int .i64 t11)],stk := [[]],H := [.cells [.ro (.int .i64) o0_0,.ro (.int .i64) o0_1,.own 4,.own 5,.int .i64 o0_4,.int .i64 o0_5],.cells [.ro (.int .i64) o1_0,.ro (.int .i64) o1_1,.own 6,.own 7,.int .i64 o1_4,.int .i64 o1_5],.cells [.ifc 27 (.ptr 0 0),.ifc 27 (.ptr 8 0),.int .i64 (0),.own 9,.own 10],.cells [.sub 11 o3_0 o3_0_2 2,.own 12],.arr (.st (.pair (.int .i64) (.int .i64))) o4,.arr (.st (.pair (.int .i64) .str)) o5,.arr (.st (.pair (.int .i64) (.int .i64))) ([]),.arr (.st (.pair (.int .i64) .str)) ([]),.cells [.own 13,.own 14,.own 15,.own 16,.int .i64 o8_4,.int .i64 o8_5],.arr (.st (.pair (.int .i64) .str)) o9,.arr (.st (.pair (.int .i64) (.int .i64))) o10,.arr (.st (.pair (.int .i64) .str)) o11,.arr (.st (.pair (.int .i64) (.int .i64))) o12,.arr (.int .i64) ([]),.arr (.int .i64) ([]),.arr (.st (.pair (.int .i64) (.int .i64))) o15,.arr (.st (.pair (.int .i64) .str)) o16],blk := 16384 }
def decPq19_n1 (s : St) : Option {x : Iq19_n1 × Vq19_n1 // s = Sq19_n1 x.1 x.2} := match s with
  | { env := [(0,.ro (.st (.pair (.int .i64) (.pair (.int .i64) (.pair .str (.pair (.int .i64) (.pair (.int .i64) (.pair (.int .i64) (.pair (.pair (.int .i64) (.pair (.int .i64) (.pair (.int .i64) .str))) (.list (.int .i64)))))))))) t0),(7,.ptr 0 0),(8,.ptr 1 0),(9,.ptr 2 0),(10,.ptr 3 0),(11,.int .i64 t11)],stk := [[]],H := [.cells [.ro (.int .i64) o0_0,.ro (.int .i64) o0_1,.own 4,.own 5,.int .i64 o0_4,.int .i64 o0_5],.cells [.ro (.int .i64) o1_0,.ro (.int .i64) o1_1,.own 6,.own 7,.int .i64 o1_4,.int .i64 o1_5],.cells [.ifc 27 (.ptr 0 0),.ifc 27 (.ptr 8 0),.int .i64 r10,.own 9,.own 10],.cells [.sub 11 o3_0 o3_0_2 2,.own 12],.arr (.st (.pair (.int .i64) (.int .i64))) o4,.arr (.st (.pair (.int .i64) .str)) o5,.arr (.st (.pair (.int .i64) (.int .i64))) r15,.arr (.st (.pair (.int .i64) .str)) r16,.cells [.own 13,.own 14,.own 15,.own 16,.int .i64 o8_4,.int .i64 o8_5],.arr (.st (.pair (.int .i64) .str)) o9,.arr (.st (.pair (.int .i64) (.int .i64))) o10,.arr (.st (.pair (.int .i64) .str)) o11,.arr (.st (.pair (.int .i64) (.int .i64))) o12,.arr (.int .i64) r23,.arr (.int .i64) r24,.arr (.st (.pair (.int .i64) (.int .i64))) o15,.arr (.st (.pair (.int .i64) .str)) o16],blk := 16384 } => if h10 : r10 = 0 then if h15 : r15 = [] then if h16 : r16 = [] then if h23 : r23 = [] then if h24 : r24 = [] then some ⟨((t0,o0_0,o0_1,o1_0,o1_1),(t11,o0_4,o0_5,o1_4,o1_5,o3_0,o3_0_2,o4,o5,o8_4,o8_5,o9,o10,o11,o12,o15,o16)),by subst h10 h15 h16 h23 h24; rfl⟩ else none else none else none else none else none
  | _ => none
def decq19_n1 (s : St) : Option (Iq19_n1 × Vq19_n1) := pk (decPq19_n1 s)
theorem decq19_n1_ok (s : St) (x : Iq19_n1 × Vq19_n1) (h : decq19_n1 s = some x) : s = Sq19_n1 x.1 x.2 := pk_ok (o := decPq19_n1 s) h
def outq19_n1 : Iq19_n1 → (Ex → St → Ans) → Yq19_n1 → Ans := fun (t0,o0_0,o0_1,o1_0,o1_1) K => (Sum.elim (fun _ => K (Ex.ret) { env := [(6,.bool (false))],stk := [[]],H := [],blk := 16386 }) (fun _ => K (Ex.exit 0) { env := [],stk := [[]],H := [],blk := 16384 }))
def stepq19_n1 {β : Type} : Iq19_n1 → Vq19_n1 → (Vq19_n1 → Option β) → (Yq19_n1 → Option β) → Option β := fun (t0,o0_0,o0_1,o1_0,o1_1) (t11,o0_4,o0_5,o1_4,o1_5,o3_0,o3_0_2,o4,o5,o8_4,o8_5,o9,o10,o11,o12,o15,o16) next exit => (bif decide (t11 < (↑(List.length t0) : Int)) then (bindO (nodeDq19_n2 (t0,t11,o0_0,o0_1,o0_4,o0_5,o1_0,o1_1,o1_4,o1_5,o3_0,o3_0_2,o4,o5,o8_4,o8_5,o9,o10,o11,o12,o15,o16)) (Sum.elim (fun _ => (exit (Sum.inl ()))) (unP fun o0_4_2 => unP fun o0_5_2 => unP fun o1_4_2 => unP fun o1_5_2 => unP fun o3_0_3 => unP fun o3_0_2_2 => unP fun o4_2 => unP fun o5_2 => unP fun o8_4_2 => unP fun o8_5_2 => unP fun o9_2 => unP fun o10_2 => unP fun o11_2 => unP fun o12_2 => unP fun o15_2 o16_2 => (next (IntKind.wrap .i64 (t11 + (1 : Int)),o0_4_2,o0_5_2,o1_4_2,o1_5_2,o3_0_3,o3_0_2_2,o4_2,o5_2,o8_4_2,o8_5_2,o9_2,o10_2,o11_2,o12_2,o15_2,o16_2))))) else (exit (Sum.inr ())))
def stepDq19_n1 (i : Iq19_n1) (v : Vq19_n1) : Option (Vq19_n1 ⊕ Yq19_n1) := stepq19_n1 i v (fun v => some (.inl v)) (fun y => some (.inr y))
theorem stepq19_n1_nat (i : Iq19_n1) (v : Vq19_n1) (next : Vq19_n1 → Ans) (exit : Yq19_n1 → Ans) : stepq19_n1 i v next exit = bindO (stepDq19_n1 i v) (Sum.elim next exit) := by
  obtain ⟨t0,o0_0,o0_1,o1_0,o1_1⟩ := i
  obtain ⟨t11,o0_4,o0_5,o1_4,o1_5,o3_0,o3_0_2,o4,o5,o8_4,o8_5,o9,o10,o11,o12,o15,o16⟩ := v
  simp only [stepDq19_n1,stepq19_n1,bindO_cond,bindO_assoc,bindO_none,bindO_pure,bindO_elim,bindO_unP,bindO_empty,Sum.elim_inl,Sum.elim_inr]
theorem stepq19_n1_ok (n : Nat) (i : Iq19_n1) (v : Vq19_n1) (K : Ex → St → Ans) : codeI Try.tab envq19 noHint (codeD Try.tab envq19 noHint 0 64) (n+1) 158 annLq19_n1 (.loop Lq19_n1) (weakP 5000000 (exk [] [6] [(0,[])]) K) (Sq19_n1 i v) = stepq19_n1 i v (fun v' => codeI Try.tab envq19 noHint (codeD Try.tab envq19 noHint 0 64) n 158 annLq19_n1 (.loop Lq19_n1) (weakP 5000000 (exk [] [6] [(0,[])]) K) (Sq19_n1 i v')) (fun y => outq19_n1 i K y) := by kernel_rfl
theorem GNq19_n1_ok : CSum Try.prog 158 (.loop Lq19_n1) (sumL decq19_n1 stepDq19_n1 outq19_n1) := csum_loop mixed tabOk envq19Ok 5000000 (exk [] [6] [(0,[])]) annLq19_n1_ok decq19_n1_ok stepq19_n1_ok stepq19_n1_nat
noncomputable def Gq19_n1 : (Ex → St → Ans) → St → Ans := (sumL decq19_n1 stepDq19_n1 outq19_n1)
theorem Gq19_n1_ok : CSum Try.prog 158 (.loop Lq19_n1) Gq19_n1 := GNq19_n1_ok
noncomputable def Lq19_n0 : Code := codeAt [1,1,0,0] bq19
noncomputable def annLq19_n0 : Ann := .none
theorem annLq19_n0_ok : AnnOk Try.prog 158 Lq19_n0 annLq19_n0 := (annOk_none _ _ _)
abbrev Iq19_n0 := (List (Int × Int × List UInt8 × Int × Int × Int × (Int × Int × Int × List UInt8) × List Int)) × (List Int) × (List Int)
abbrev Yq19_n0 := (Bool)
def Sq19_n0 : Iq19_n0 → St := fun (t0,t1,t2) => { env := [(0,.ro (.st (.pair (.int .i64) (.pair (.int .i64) (.pair .str (.pair (.int .i64) (.pair (.int .i64) (.pair (.int .i64) (.pair (.pair (.int .i64) (.pair (.int .i64) (.pair (.int .i64) .str))) (.list (.int .i64)))))))))) t0),(1,.ro (.int .i64) t1),(2,.ro (.int .i64) t2)],stk := [[]],H := [],blk := 16384 }
def decPq19_n0 (s : St) : Option {x : Iq19_n0 // s = Sq19_n0 x} := match s with
  | { env := [(0,.ro (.st (.pair (.int .i64) (.pair (.int .i64) (.pair .str (.pair (.int .i64) (.pair (.int .i64) (.pair (.int .i64) (.pair (.pair (.int .i64) (.pair (.int .i64) (.pair (.int .i64) .str))) (.list (.int .i64)))))))))) t0),(1,.ro (.int .i64) t1),(2,.ro (.int .i64) t2)],stk := [[]],H := [],blk := 16384 } => some ⟨(t0,t1,t2),rfl⟩
  | _ => none
def decq19_n0 (s : St) : Option Iq19_n0 := pk (decPq19_n0 s)
theorem decq19_n0_ok (s : St) (x : Iq19_n0) (h : decq19_n0 s = some x) : s = Sq19_n0 x := pk_ok (o := decPq19_n0 s) h
def outq19_n0 : Iq19_n0 → (Ex → St → Ans) → Yq19_n0 → Ans := fun (t0,t1,t2) K => fun t34_y => K (Ex.norm) { env := [(0,.ro (.st (.pair (.int .i64) (.pair (.int .i64) (.pair .str (.pair (.int .i64) (.pair (.int .i64) (.pair (.int .i64) (.pair (.pair (.int .i64) (.pair (.int .i64) (.pair (.int .i64) .str))) (.list (.int .i64)))))))))) t0),(1,.ro (.int .i64) t1),(2,.ro (.int .i64) t2),(34,.bool t34_y)],stk := [[]],H := [],blk := 16384 }
def nodeq19_n0 {β : Type} : Iq19_n0 → (Yq19_n0 → Option β) → Option β := fun (t0,t1,t2) exit => (bindO (fnDq29 (t0)) fun r => (bif r then (exit (true)) else (bif decide ((↑(List.length t1) : Int) > (200 : Int)) then (exit (true)) else (exit (decide ((↑(List.length t2) : Int) > (200 : Int)))))))
def nodeDq19_n0 (i : Iq19_n0) : Option Yq19_n0 := nodeq19_n0 i some
theorem nodeq19_n0_nat (i : Iq19_n0) (k : Yq19_n0 → Ans) : nodeq19_n0 i k = bindO (nodeDq19_n0 i) k := by
  obtain ⟨t0,t1,t2⟩ := i
  simp only [nodeDq19_n0,nodeq19_n0,bindO_cond,bindO_assoc,bindO_none,bindO_pure,bindO_elim,bindO_unP,bindO_empty]
theorem nodeq19_n0_ok (i : Iq19_n0) (K : Ex → St → Ans) : codeI Try.tab envq19 noHint (codeD Try.tab envq19 noHint 0 64) 70 158 annLq19_n0 Lq19_n0 (weakP 5000000 (exk [0,1,2,34] [6] []) K) (Sq19_n0 i) = nodeq19_n0 i (outq19_n0 i K) := by kernel_rfl
theorem GNq19_n0_ok : CSum Try.prog 158 Lq19_n0 (sumN decq19_n0 nodeDq19_n0 outq19_n0) := csum_node mixed tabOk envq19Ok 5000000 (exk [0,1,2,34] [6] []) annLq19_n0_ok decq19_n0_ok nodeq19_n0_ok nodeq19_n0_nat
noncomputable def Gq19_n0 : (Ex → St → Ans) → St → Ans := (sumN decq19_n0 nodeDq19_n0 outq19_n0)
theorem Gq19_n0_ok : CSum Try.prog 158 Lq19_n0 Gq19_n0 := GNq19_n0_ok
noncomputable def annq19 : Ann := (.seq .none (.seq .none (.seq (.seq (.cut 5000000 [0,1,2] Gq19_n0) .none) (.seq .none (.seq .none (.seq .none (.seq (.seq .none (.block (.cut 5000000 [0,7,8,9,10,11] Gq19_n1))) .none)))))))
theorem annq19_ok : AnnOk Try.prog 158 bq19 annq19 := ⟨(annOk_none _ _ _),⟨(annOk_none _ _ _),⟨⟨Gq19_n0_ok,(annOk_none _ _ _)⟩,⟨(annOk_none _ _ _),⟨(annOk_none _ _ _),⟨(annOk_none _ _ _),⟨⟨(annOk_none _ _ _),Gq19_n1_ok⟩,(annOk_none _ _ _)⟩⟩⟩⟩⟩⟩⟩
abbrev Aq19 := (List (Int × Int × List UInt8 × Int × Int × Int × (Int × Int × Int × List UInt8) × List Int)) × (List Int) × (List Int)
abbrev Yq19 := (Bool)
def fnq19 {β : Type} : Aq19 → (Yq19 → Option β) → Option β := fun (a0,a1,a2) exit => (bindO (fnDq30 ()) fun r => (bif !r then (exit (false)) else (bindO (nodeDq19_n0 (a0,a1,a2)) fun t34 => (bif t34 then (exit (true)) else (bindO (fnDq17 (a1,a2,(0 : Int),(0 : Int),(0 : Int),(0 : Int),[],[],[],[],[],[])) fun _ => (bindO (loopD (stepDq19_n1 (a0,a1,a2,a1,a2)) FUEL ((0 : Int),(0 : Int),(0 : Int),(0 : Int),(0 : Int),nat_lit 0,nat_lit 0,[],[],(0 : Int),(0 : Int),[],[],[],[],[],[])) (Sum.elim (fun _ => (exit (false))) (fun _ => (exit (true))))))))))
def fnDq19 (a : Aq19) : Option Yq19 := fnq19 a some
theorem fnq19_nat (a : Aq19) (k : Yq19 → Ans) : fnq19 a k = bindO (fnDq19 a) k := by
  obtain ⟨a0,a1,a2⟩ := a
  simp only [fnDq19,fnq19,bindO_cond,bindO_assoc,bindO_none,bindO_pure,bindO_elim,bindO_unP,bindO_empty]
def argsq19 : Aq19 → List AV × List AE.Obj := fun (a0,a1,a2) => ([.ro (.st (.pair (.int .i64) (.pair (.int .i64) (.pair .str (.pair (.int .i64) (.pair (.int .i64) (.pair (.int .i64) (.pair (.pair (.int .i64) (.pair (.int .i64) (.pair (.int .i64) .str))) (.list (.int .i64)))))))))) a0,.ro (.int .i64) a1,.ro (.int .i64) a2],[])
def decPAq19 (l : List AV) (H : List AE.Obj) : Option {a : Aq19 // (l,H) = argsq19 a} := match l,H with
  | [.ro (.st (.pair (.int .i64) (.pair (.int .i64) (.pair .str (.pair (.int .i64) (.pair (.int .i64) (.pair (.int .i64) (.pair (.pair (.int .i64) (.pair (.int .i64) (.pair (.int .i64) .str))) (.list (.int .i64)))))))))) a0,.ro (.int .i64) a1,.ro (.int .i64) a2],[] => some ⟨(a0,a1,a2),rfl⟩
  | _,_ => none
def decAq19 (l : List AV) (H : List AE.Obj) : Option Aq19 := pk (decPAq19 l H)
theorem decAq19_ok (l : List AV) (H : List AE.Obj) (a : Aq19) (h : decAq19 l H = some a) : (l,H) = argsq19 a := pk_ok (o := decPAq19 l H) h
def outq19 : Aq19 → (AV → List AE.Obj → Ans) → Yq19 → Ans := fun (a0,a1,a2) K => fun r_y => K (.bool r_y) []
theorem fnq19_ok (a : Aq19) (K : AV → List AE.Obj → Ans) : fnE Try.tab envq19 noHint 0 70 4 Try.f4.ntmps Try.f4.results.toList annq19 bq19 (argsq19 a).1 (argsq19 a).2 K = fnq19 a (outq19 a K) := by kernel_rfl
def vFq19 (a : Aq19) (K : AV → List AE.Obj → Ans) : Ans := bindO (fnDq19 a) fun y => outq19 a K y
def Fq19 : List AV → List AE.Obj → (AV → List AE.Obj → Ans) → Ans := fun l H K => bindO (decAq19 l H) fun a => vFq19 a K
theorem Fq19_ok : FuncOk Try.prog 4 Fq19 := func_mkD (hint := noHint) (d := 0) (n := 70) mixed tabOk envq19Ok Try.func4 (bodySome (by kernel_rfl)) (by decide +kernel) annq19_ok decAq19_ok fnq19_ok fnq19_nat
end Go.Proofs.R8
namespace Go.Proofs.R8
open Go Go.AE
/-- What an event does with what is kept and waits. -/
def after (id how : Int) (K : List Sec) (W : List (Int × Int)) : Bool × List Sec × List (Int × Int) :=
  match firstI id W with
  | none => (false, K, W)
  | some (a, r) => if how = 2 then (true, K.drop a.toNat, r.map (low a)) else (false, K, r)
def okW (W : List (Int × Int)) (m : Nat) : Prop := ∀ p ∈ W, 0 ≤ p.2 ∧ p.2 ≤ (m : Int)
theorem firstI_ok {id : Int} {W : List (Int × Int)} {m : Nat} (hb : okW W m) {a : Int} {r : List (Int × Int)} (hf : firstI id W = some (a, r)) : 0 ≤ a ∧ a ≤ (m : Int) ∧ okW r m ∧ r.length ≤ W.length := by
  obtain ⟨i, hi, h1, h2, h3, h4⟩ := firstI_some hf
  have hp := hb W[i] (List.getElem_mem hi)
  rw [h2] at hp
  refine ⟨hp.1, hp.2, fun p hp => ?_, by rw [h3, List.length_append, List.length_take, List.length_drop]; omega⟩
  rw [h3] at hp
  rcases List.mem_append.1 hp with hp | hp
  · exact hb p (List.mem_of_mem_take hp)
  · exact hb p (List.mem_of_mem_drop hp)
theorem poll_eq (id how : Int) (K : List Sec) (hK : K.length ≤ 1000) (W : List (Int × Int)) (hW : W.length ≤ 1000) (hb : okW W K.length) (errs hows : List Int) (n k : Int) (wr : List Sec) (x9 : List (Int × Int)) (x10 : List Sec) :
    fnDq7 (0, errs, hows, n, k, 0, 0, K, W, [(id, how)], wr, [], [], x9, x10) = some ((after id how K W).1, (after id how K W).2.1, (after id how K W).2.2, [], x9) := by
  have hs : fnDq15 (0, errs, hows, n, k, 0, 0, K, W, [(id, how)], wr, [], [], x9, x10) = some (.inl ()) := rfl
  have hev : fnDq20 (errs, hows, n, k, [(id, how)], wr) = some () := rfl
  have hb' : ∀ p ∈ W, 0 ≤ p.2 ∧ p.2 ≤ 1000 := fun p hp => by have := hb p hp; omega
  have hn1 : nodeDq7_n1 (false, 1, 0, 0, errs, hows, n, k, 0, 0, [(id, how)], K, W, [], wr, [], [], x9, x10) = some (after id how K W) := by
    have hc : nodeDq7_n1 (false, 1, 0, 0, errs, hows, n, k, 0, 0, [(id, how)], K, W, [], wr, [], [], x9, x10) =
        bindO (fnDq11 (id, how, 0, errs, hows, n, k, 0, 0, K, W, [], wr, [], [], x9, x10)) (Sum.elim (fun o11_2 => some (false, K, o11_2)) (Sum.elim (unP fun o11_2 o12_2 => some (true, o11_2, o12_2)) (fun _ => some (false, K, W)))) := rfl
    rw [hc]
    unfold after
    cases hf : firstI id W with
    | none => rw [come_none id how K W hW hf]; rfl
    | some q =>
      obtain ⟨a, r⟩ := q
      obtain ⟨h1, h2, h3, h4⟩ := firstI_ok hb hf
      obtain ⟨a, rfl⟩ : ∃ b : Nat, a = (b : Int) := ⟨a.toNat, by omega⟩
      rw [come_some id how K hK W hW hf (by omega) hb']
      dsimp only
      by_cases hh : how = 2
      · rw [if_pos hh, if_pos hh, Int.toNat_natCast]; rfl
      · rw [if_neg hh, if_neg hh]; rfl
  have hloop : loopD (stepDq7_n0 (1, 0, errs, hows, n, k, 0, 0, [(id, how)], [], wr, [], [], x9, x10)) FUEL (false, 0, K, W) = some (after id how K W) := by
    have e1 : stepDq7_n0 (1, 0, errs, hows, n, k, 0, 0, [(id, how)], [], wr, [], [], x9, x10) (false, 0, K, W) = some (.inl ((after id how K W).1, 1, (after id how K W).2.1, (after id how K W).2.2)) := by
      simp only [stepDq7_n0, stepq7_n0, dec_true (show (0 : Int) < 1 by omega), cond_true, hn1, bindO_pure]
      rfl
    have e2 : stepDq7_n0 (1, 0, errs, hows, n, k, 0, 0, [(id, how)], [], wr, [], [], x9, x10) ((after id how K W).1, 1, (after id how K W).2.1, (after id how K W).2.2) = some (.inr (after id how K W)) := by
      simp only [stepDq7_n0, stepq7_n0, dec_false (show ¬ (1 : Int) < 1 by omega), cond_false]
    refine loopD_more 2 _ _ _ (by unfold FUEL; omega) ?_
    show loopD _ (1 + 1) _ = _
    rw [loopD, e1, bindO_pure]
    show loopD _ (0 + 1) _ = _
    rw [loopD, e2]
    rfl
  simp only [fnDq7, fnq7, hs, bindO_pure, Sum.elim_inl, hev, List.length_singleton, Int.natCast_one, hloop, unP]

theorem came_eq (id how : Int) (off len : Nat) (arr : List Sec) (W : List (Int × Int)) (hl : len ≤ 1000) (hW : W.length ≤ 1000) (hb : okW W len) :
    fnDq31 (id, how, off, len, arr, W) = match firstI id W with
      | none => some (.inl ())
      | some (a, r) => if how = 2 then some (.inr (true, off + a.toNat, len - a.toNat, r.map (low a))) else some (.inr (false, off, len, r)) := by
  let st : Nat → Int × List (Int × Int) := fun j => match firstI id (W.take j) with
    | none => (-1, W.take j)
    | some (a, r) => (a, r)
  have key : ∃ y, loopD (stepDq31_n0 (off, len, arr, W, id, how)) FUEL ((-1 : Int), ((0 : Nat) : Int), []) = some y ∧ y = st W.length := by
    refine loopD_inv (fun j v => j ≤ W.length ∧ v = ((st j).1, (j : Int), (st j).2)) W.length _ ?_ ⟨Nat.zero_le _, rfl⟩ (by omega)
    rintro j v ⟨hj, rfl⟩
    by_cases hlt : j < W.length
    · left
      have hgj : W[j]? = some W[j] := List.getElem?_eq_getElem hlt
      have htk : W.take (j + 1) = W.take j ++ [W[j]] := by rw [List.take_add_one, hgj]; rfl
      have hin : inR (j : Int) W.length = true := inR_true (by omega)
      have h0 : nodeDq31_n1 ((st j).1, (j : Int), off, len, arr, W, id, how, (st j).2) = some (st (j + 1)) := by
        have hn2 : nodeDq31_n2 ((st j).1, (j : Int), off, len, arr, W, id, how, (st j).2) = some (decide (W[j].1 = id) && decide ((st j).1 < 0)) := by
          simp only [nodeDq31_n2, nodeq31_n2, hin, cond_true, Int.toNat_natCast, hgj, bindO_pure]
          by_cases hid : W[j].1 = id
          · rw [show (W[j].1 == id) = true from dec_true hid, dec_true hid, cond_true, Bool.true_and]
          · rw [show (W[j].1 == id) = false from dec_false hid, dec_false hid, cond_false, Bool.false_and]
        have hlen : (st j).2.length ≤ 1000 := by
          show (match firstI id (W.take j) with | none => ((-1 : Int), W.take j) | some (a, r) => (a, r)).2.length ≤ 1000
          cases hf : firstI id (W.take j) with
          | none => show (W.take j).length ≤ 1000; rw [List.length_take]; omega
          | some q =>
            have := (firstI_ok (m := len) (fun p hp => hb p (List.mem_of_mem_take hp)) hf).2.2.2
            rw [List.length_take] at this
            show q.2.length ≤ 1000
            omega
        have hbl : Nat.ble (((st j).2.length + List.length [(W[j].1, W[j].2)]) * 16) 140737488355328 = true := ble_true (by simp only [List.length_singleton]; omega)
        simp only [nodeDq31_n1, nodeq31_n1, hn2, bindO_pure, hin, cond_true, Int.toNat_natCast, hgj, hbl]
        show _ = some (match firstI id (W.take (j + 1)) with | none => ((-1 : Int), W.take (j + 1)) | some (a, r) => (a, r))
        rw [htk, firstI_snoc]
        show (bif decide (W[j].1 = id) && decide ((match firstI id (W.take j) with | none => ((-1 : Int), W.take j) | some (a, r) => (a, r)).1 < 0) then some (W[j].2, (match firstI id (W.take j) with | none => ((-1 : Int), W.take j) | some (a, r) => (a, r)).2)
          else some ((match firstI id (W.take j) with | none => ((-1 : Int), W.take j) | some (a, r) => (a, r)).1, (match firstI id (W.take j) with | none => ((-1 : Int), W.take j) | some (a, r) => (a, r)).2 ++ [(W[j].1, W[j].2)])) = _
        cases hf : firstI id (W.take j) with
        | none =>
          dsimp only
          by_cases hid : W[j].1 = id
          · rw [dec_true hid, if_pos hid]; rfl
          · rw [dec_false hid, if_neg hid]; rfl
        | some q =>
          obtain ⟨a, r⟩ := q
          have := (firstI_ok (m := len) (fun p hp => hb p (List.mem_of_mem_take hp)) hf).1
          dsimp only
          rw [dec_false (show ¬ a < 0 by omega), Bool.and_false, cond_false]
      refine ⟨((st (j + 1)).1, ((j + 1 : Nat) : Int), (st (j + 1)).2), ?_, hlt, by omega, rfl⟩
      simp only [stepDq31_n0, stepq31_n0, dec_true (show (j : Int) < (W.length : Int) by omega), cond_true, h0, bindO_pure, wrap64_nat (show j < 9223372036854775807 by omega)]
      rfl
    · right
      obtain rfl : j = W.length := by omega
      exact ⟨st W.length, by simp only [stepDq31_n0, stepq31_n0, dec_false (show ¬ (W.length : Int) < (W.length : Int) by omega), cond_false], rfl⟩
  obtain ⟨y, hy, rfl⟩ := key
  have hy' : loopD (stepDq31_n0 (off, len, arr, W, id, how)) FUEL (-1, 0, []) = some (st W.length) := hy
  have hst : st W.length = (match firstI id W with | none => ((-1 : Int), W) | some (a, r) => (a, r)) := by
    show (match firstI id (W.take W.length) with | none => ((-1 : Int), W.take W.length) | some (a, r) => (a, r)) = _
    rw [List.take_length]
  rw [hst] at hy'
  simp only [fnDq31, fnq31, hy', bindO_pure]
  cases hf : firstI id W with
  | none => rfl
  | some q =>
    obtain ⟨a, r⟩ := q
    obtain ⟨h1, h2, h3, h4⟩ := firstI_ok hb hf
    obtain ⟨a, rfl⟩ : ∃ b : Nat, a = (b : Int) := ⟨a.toNat, by omega⟩
    simp only [unP, dec_false (show ¬ (a : Int) < 0 by omega), cond_false]
    by_cases hh : how = 2
    · rw [if_pos hh, show (how != 2) = false from by rw [ibne, dec_true hh]; rfl, cond_false, inR_true (show 0 ≤ (a : Int) ∧ (a : Int) < ((len + 1 : Nat) : Int) by omega), cond_true]
      have key : ∃ y, loopD (stepDq31_n3 ((a : Int), off + a, len - a, arr, W)) FUEL (((0 : Nat) : Int), (r.take 0).map (low a) ++ r.drop 0) = some y ∧ y = r.map (low a) := by
        refine loopD_inv (fun j v => j ≤ r.length ∧ v = ((j : Int), (r.take j).map (low a) ++ r.drop j)) r.length _ ?_ ⟨Nat.zero_le _, rfl⟩ (by omega)
        rintro j v ⟨hj, rfl⟩
        have hlm : ((r.take j).map (low a) ++ r.drop j).length = r.length := len_map _ _ _ hj
        by_cases hlt : j < r.length
        · left
          have hg : ((r.take j).map (low a) ++ r.drop j)[j]? = some r[j] := get_map _ _ _ hlt
          have hrb := h3 r[j] (List.getElem_mem hlt)
          refine ⟨(((j + 1 : Nat) : Int), (r.take (j + 1)).map (low a) ++ r.drop (j + 1)), ?_, hlt, by omega, rfl⟩
          simp only [stepDq31_n3, stepq31_n3, hlm, dec_true (show (j : Int) < (r.length : Int) by omega), cond_true, inR_true (show 0 ≤ (j : Int) ∧ (j : Int) < (r.length : Int) by omega), Int.toNat_natCast, hg, bindO_pure, wrap64_nat (show j < 9223372036854775807 by omega),
            low_w a (by omega) r[j] (by omega), set_map _ _ _ hlt]
        · right
          obtain rfl : j = r.length := by omega
          refine ⟨r.map (low a), ?_, rfl⟩
          simp only [stepDq31_n3, stepq31_n3, List.take_length, List.drop_length, List.append_nil, List.length_map, dec_false (show ¬ (r.length : Int) < (r.length : Int) by omega), cond_false]
      obtain ⟨y, hy2, rfl⟩ := key
      have hy3 : loopD (stepDq31_n3 ((a : Int), off + a, len - a, arr, W)) FUEL (0, r) = some (r.map (low a)) := hy2
      simp only [Int.toNat_natCast, hy3, bindO_pure]
    · rw [if_neg hh, show (how != 2) = true from by rw [ibne, dec_false hh]; rfl, cond_true]

/-! ### A step of both -/
structure St8 where
  n : Nat
  k : Nat
  off : Nat
  len : Nat
  arr : List Sec
  W : List (Int × Int)
  wr : List Sec
def St8.K (s : St8) : List Sec := (s.arr.drop s.off).take s.len
structure St8.Ok (s : St8) (j : Nat) : Prop where
  n : s.n ≤ j
  k : s.k ≤ j
  part : s.off + s.len ≤ s.arr.length
  arr : s.arr.length ≤ j
  W : s.W.length ≤ j
  wr : s.wr.length ≤ j
  ahead : okW s.W s.len
theorem St8.Klen {s : St8} {j : Nat} (h : s.Ok j) : s.K.length = s.len := by
  have := h.part
  show ((s.arr.drop s.off).take s.len).length = s.len
  rw [List.length_take, List.length_drop]; omega
abbrev St8.V (s : St8) : Int × Int × Int × Int × Nat × Nat × List (Int × Int) × List Sec × Int × Int × List Sec × List (Int × Int) × List Sec × List (Int × Int) × List (Int × Int) × List Sec :=
  ((s.n : Int), (s.k : Int), (s.n : Int), (s.k : Int), s.off, s.len, [], s.wr, 0, 0, s.K, s.W, s.arr, s.W, [], [])
theorem okW_low {W : List (Int × Int)} {m a : Nat} (h : okW W m) (ha : a ≤ m) : okW (W.map (low a)) (m - a) := by
  intro p hp
  obtain ⟨q, hq, rfl⟩ := List.mem_map.1 hp
  have := h q hq
  show 0 ≤ (if 0 > q.2 - (a : Int) then 0 else q.2 - (a : Int)) ∧ (if 0 > q.2 - (a : Int) then 0 else q.2 - (a : Int)) ≤ ((m - a : Nat) : Int)
  by_cases hc : 0 > q.2 - (a : Int)
  · rw [if_pos hc]; omega
  · rw [if_neg hc]; omega
theorem n4_t (x : OpT) (hw : x.1 = 0 ∨ x.1 = 1) : ∀ a b c d e f g h i j k l m n o p q r s t u v w y z aa bb cc dd ee ff gg, nodeDq19_n4 (a, b, x.1, decide (x.1 = 0), c, d, e, f, g, h, i, j, k, l, m, n, o, p, q, r, s, t, u, v, w, y, z, aa, bb, cc, dd, ee, ff, gg) = some true := by
  intros
  simp only [nodeDq19_n4, nodeq19_n4]
  rcases hw with h | h
  · rw [dec_true h]; rfl
  · rw [h]; rfl
theorem n4_f (x : OpT) (hw : ¬ (x.1 = 0 ∨ x.1 = 1)) : ∀ a b c d e f g h i j k l m n o p q r s t u v w y z aa bb cc dd ee ff gg, nodeDq19_n4 (a, b, x.1, decide (x.1 = 0), c, d, e, f, g, h, i, j, k, l, m, n, o, p, q, r, s, t, u, v, w, y, z, aa, bb, cc, dd, ee, ff, gg) = some false := by
  intros
  simp only [nodeDq19_n4, nodeq19_n4, ibeq, dec_false (show ¬ x.1 = 0 from fun h => hw (.inl h)), dec_false (show ¬ x.1 = 1 from fun h => hw (.inr h)), cond_false]
theorem step_w (l : List OpT) (t : Int) (x : OpT) (errs hows : List Int) (n k off len : Nat) (arr : List Sec) (W : List (Int × Int)) (wr K : List Sec) (hKd : (arr.drop off).take len = K) (hKl : K.length = len) {j : Nat} (hj : j ≤ 90) (hn : n ≤ j) (hk : k ≤ j) (hpart : off + len ≤ arr.length) (harr : arr.length ≤ j) (hW : W.length ≤ j) (hwr : wr.length ≤ j) (hah : okW W len) (hw : x.1 = 0 ∨ x.1 = 1) :
    ∃ s' : St8, s'.Ok (j + 1) ∧ nodeDq19_n3 (l, t, x.1, errs, hows, (n : Int), (k : Int), errs, hows, (n : Int), (k : Int), off, len, x.1, x.2.1, x.2.2.1, x.2.2.2.1, x.2.2.2.2.1, x.2.2.2.2.2.1, x.2.2.2.2.2.2.1.1, x.2.2.2.2.2.2.1.2.1, x.2.2.2.2.2.2.1.2.2.1, x.2.2.2.2.2.2.1.2.2.2, x.2.2.2.2.2.2.2, [], wr, 0, 0, K, W, arr, W, [], []) = some (true, s'.V) := by
  have hb' : ∀ p ∈ W, 0 ≤ p.2 ∧ p.2 ≤ 1000 := fun p hp => by have := hah p hp; omega
  have h4 := n4_t x hw
  by_cases he : (errs[n]?).getD 0 = 0
  · refine ⟨⟨n + 1, k + 1, 0, (K ++ [(x.2.1, x.2.2.1)]).length, K ++ [(x.2.1, x.2.2.1)], W, wr ++ [(x.2.1, x.2.2.1)]⟩, ⟨by dsimp only; omega, by dsimp only; omega, by dsimp only; omega, by simp; omega, by dsimp only; omega, by simp; omega, fun p hp => ?_⟩, ?_⟩
    · have := hah p hp
      simp only [List.length_append, List.length_singleton]; omega
    · have hwt := wrote_eq x.2.1 x.2.2.1 off len arr W hpart (by omega)
      rw [hKd] at hwt
      simp only [nodeDq19_n3, nodeq19_n3, ibeq, h4, bindO_pure, cond_true, next_ok (hows := hows) (show n ≤ 1000 by omega) (show k ≤ 1000 by omega) [] [] he, unP, nodeDq19_n5, nodeq19_n5, dec_true (show (0 : Int) = 0 from rfl), hwt,
        cwrite_ok (hows := hows) (show n ≤ 1000 by omega) (show k ≤ 1000 by omega) x.2.1 x.2.2.1 K (by omega) W [] wr (by omega) [] [] he, Sum.elim_inr, Sum.elim_inl]
      simp only [unP, St8.V, St8.K, List.drop_zero, List.take_length, decide_true, beq_self_eq_true, cond_true, bindO_pure, Bool.not_false]
  · obtain ⟨z, hz⟩ : ∃ z, (errs[n]?).getD 0 = z := ⟨_, rfl⟩
    have hz0 : z ≠ 0 := by rw [← hz]; exact he
    refine ⟨⟨n + 1, k, off, len, arr, W, wr⟩, ⟨by dsimp only; omega, by dsimp only; omega, hpart, by dsimp only; omega, by dsimp only; omega, by dsimp only; omega, hah⟩, ?_⟩
    simp only [nodeDq19_n3, nodeq19_n3, ibeq, h4, bindO_pure, cond_true, next_err (hows := hows) (show n ≤ 1000 by omega) (show k ≤ 1000 by omega) [] [] hz hz0, unP, nodeDq19_n5, nodeq19_n5, dec_false hz0, cond_false,
      cwrite_err (hows := hows) (show n ≤ 1000 by omega) (show k ≤ 1000 by omega) x.2.1 x.2.2.1 K (by omega) W [] wr [] [] hz hz0, Sum.elim_inl, dec_true (show z = z from rfl)]
    simp only [St8.V, St8.K, hKd, decide_true, beq_self_eq_true, cond_true, bindO_pure, Bool.not_false]
theorem step_f2 (l : List OpT) (t : Int) (x : OpT) (errs hows : List Int) (n k off len : Nat) (arr : List Sec) (W : List (Int × Int)) (wr K : List Sec) (hKd : (arr.drop off).take len = K) (hKl : K.length = len) {j : Nat} (hj : j ≤ 90) (hn : n ≤ j) (hk : k ≤ j) (hpart : off + len ≤ arr.length) (harr : arr.length ≤ j) (hW : W.length ≤ j) (hwr : wr.length ≤ j) (hah : okW W len) (hw : ¬ (x.1 = 0 ∨ x.1 = 1)) (h2 : x.1 = 2) (he : (errs[n]?).getD 0 = 0) (c2 : (hows[k]?).getD 0 = 2) :
    ∃ s' : St8, s'.Ok (j + 1) ∧ nodeDq19_n3 (l, t, x.1, errs, hows, (n : Int), (k : Int), errs, hows, (n : Int), (k : Int), off, len, x.1, x.2.1, x.2.2.1, x.2.2.2.1, x.2.2.2.2.1, x.2.2.2.2.2.1, x.2.2.2.2.2.2.1.1, x.2.2.2.2.2.2.1.2.1, x.2.2.2.2.2.2.1.2.2.1, x.2.2.2.2.2.2.1.2.2.2, x.2.2.2.2.2.2.2, [], wr, 0, 0, K, W, arr, W, [], []) = some (true, s'.V) := by
  have hb' : ∀ p ∈ W, 0 ≤ p.2 ∧ p.2 ≤ 1000 := fun p hp => by have := hah p hp; omega
  have h4 := n4_f x hw
  have hfl := cflush_ok (errs := errs) (hows := hows) (n := n) (k := k) (by omega) (by omega) K (by omega) W [] (by omega) hb' wr [] [] he
  have hfd := flushed_eq ((k + 1 : Nat) : Int) ((hows[k]?).getD 0) off len arr W (by omega)
  rw [hKl] at hfl
  rw [if_pos c2] at hfl hfd
  have hdr : K.drop len = [] := List.drop_eq_nil_of_le (by omega)
  refine ⟨⟨n + 1, k + 1, 0, 0, [], [], wr⟩, ⟨by dsimp only; omega, by dsimp only; omega, by simp, by simp, by simp, by dsimp only; omega, fun p hp => by cases hp⟩, ?_⟩
  simp only [nodeDq19_n3, nodeq19_n3, ibeq, h4, bindO_pure, cond_false, dec_true h2, cond_true, next_ok (hows := hows) (show n ≤ 1000 by omega) (show k ≤ 1000 by omega) [] [] he, unP, hfl, Sum.elim_inr,
    nodeDq19_n6, nodeq19_n6, dec_true (show (0 : Int) = 0 from rfl), hfd, Sum.elim_inl, hdr, decide_true]
  simp only [St8.V, St8.K, List.drop_nil, List.take_nil]
theorem step_f1 (l : List OpT) (t : Int) (x : OpT) (errs hows : List Int) (n k off len : Nat) (arr : List Sec) (W : List (Int × Int)) (wr K : List Sec) (hKd : (arr.drop off).take len = K) (hKl : K.length = len) {j : Nat} (hj : j ≤ 90) (hn : n ≤ j) (hk : k ≤ j) (hpart : off + len ≤ arr.length) (harr : arr.length ≤ j) (hW : W.length ≤ j) (hwr : wr.length ≤ j) (hah : okW W len) (hw : ¬ (x.1 = 0 ∨ x.1 = 1)) (h2 : x.1 = 2) (he : (errs[n]?).getD 0 = 0) (c2 : ¬ (hows[k]?).getD 0 = 2) (c1 : (hows[k]?).getD 0 = 1) :
    ∃ s' : St8, s'.Ok (j + 1) ∧ nodeDq19_n3 (l, t, x.1, errs, hows, (n : Int), (k : Int), errs, hows, (n : Int), (k : Int), off, len, x.1, x.2.1, x.2.2.1, x.2.2.2.1, x.2.2.2.2.1, x.2.2.2.2.2.1, x.2.2.2.2.2.2.1.1, x.2.2.2.2.2.2.1.2.1, x.2.2.2.2.2.2.1.2.2.1, x.2.2.2.2.2.2.1.2.2.2, x.2.2.2.2.2.2.2, [], wr, 0, 0, K, W, arr, W, [], []) = some (true, s'.V) := by
  have hb' : ∀ p ∈ W, 0 ≤ p.2 ∧ p.2 ≤ 1000 := fun p hp => by have := hah p hp; omega
  have h4 := n4_f x hw
  have hfl := cflush_ok (errs := errs) (hows := hows) (n := n) (k := k) (by omega) (by omega) K (by omega) W [] (by omega) hb' wr [] [] he
  have hfd := flushed_eq ((k + 1 : Nat) : Int) ((hows[k]?).getD 0) off len arr W (by omega)
  rw [hKl] at hfl
  rw [if_neg c2] at hfl hfd
  rw [if_pos c1] at hfl hfd
  refine ⟨⟨n + 1, k + 1, off, len, arr, W, wr⟩, ⟨by dsimp only; omega, by dsimp only; omega, hpart, by dsimp only; omega, by dsimp only; omega, by dsimp only; omega, hah⟩, ?_⟩
  simp only [nodeDq19_n3, nodeq19_n3, ibeq, h4, bindO_pure, cond_false, dec_true h2, cond_true, next_ok (hows := hows) (show n ≤ 1000 by omega) (show k ≤ 1000 by omega) [] [] he, unP, hfl, Sum.elim_inr,
    nodeDq19_n6, nodeq19_n6, dec_true (show (0 : Int) = 0 from rfl), hfd, Sum.elim_inl]
  simp only [St8.V, St8.K, hKd, decide_true, beq_self_eq_true, cond_true, bindO_pure, Bool.not_false]
theorem step_fe (l : List OpT) (t : Int) (x : OpT) (errs hows : List Int) (n k off len : Nat) (arr : List Sec) (W : List (Int × Int)) (wr K : List Sec) (hKd : (arr.drop off).take len = K) (hKl : K.length = len) {j : Nat} (hj : j ≤ 90) (hn : n ≤ j) (hk : k ≤ j) (hpart : off + len ≤ arr.length) (harr : arr.length ≤ j) (hW : W.length ≤ j) (hwr : wr.length ≤ j) (hah : okW W len) (hw : ¬ (x.1 = 0 ∨ x.1 = 1)) (h2 : x.1 = 2) (he : ¬ (errs[n]?).getD 0 = 0) :
    ∃ s' : St8, s'.Ok (j + 1) ∧ nodeDq19_n3 (l, t, x.1, errs, hows, (n : Int), (k : Int), errs, hows, (n : Int), (k : Int), off, len, x.1, x.2.1, x.2.2.1, x.2.2.2.1, x.2.2.2.2.1, x.2.2.2.2.2.1, x.2.2.2.2.2.2.1.1, x.2.2.2.2.2.2.1.2.1, x.2.2.2.2.2.2.1.2.2.1, x.2.2.2.2.2.2.1.2.2.2, x.2.2.2.2.2.2.2, [], wr, 0, 0, K, W, arr, W, [], []) = some (true, s'.V) := by
  have hb' : ∀ p ∈ W, 0 ≤ p.2 ∧ p.2 ≤ 1000 := fun p hp => by have := hah p hp; omega
  have h4 := n4_f x hw
  obtain ⟨z, hz⟩ : ∃ z, (errs[n]?).getD 0 = z := ⟨_, rfl⟩
  have hz0 : z ≠ 0 := by rw [← hz]; exact he
  refine ⟨⟨n + 1, k, off, len, arr, W, wr⟩, ⟨by dsimp only; omega, by dsimp only; omega, hpart, by dsimp only; omega, by dsimp only; omega, by dsimp only; omega, hah⟩, ?_⟩
  simp only [nodeDq19_n3, nodeq19_n3, ibeq, h4, bindO_pure, cond_false, dec_true h2, cond_true, next_err (hows := hows) (show n ≤ 1000 by omega) (show k ≤ 1000 by omega) [] [] hz hz0, unP,
    cflush_err (hows := hows) (show n ≤ 1000 by omega) (show k ≤ 1000 by omega) K W [] wr [] [] hz hz0, Sum.elim_inl, nodeDq19_n6, nodeq19_n6, dec_true (show z = z from rfl), dec_false hz0, Bool.not_false]
  simp only [St8.V, St8.K, hKd, decide_true, beq_self_eq_true, cond_true, bindO_pure, Bool.not_false]
theorem okW_snoc {W : List (Int × Int)} {m : Nat} (h : okW W m) (i : Int) : okW (W ++ [(i, (m : Int))]) m := by
  intro p hp
  rcases List.mem_append.1 hp with hp | hp
  · exact h p hp
  · rw [List.mem_singleton.1 hp]
    exact ⟨Int.natCast_nonneg m, Int.le_refl _⟩
theorem snoc_len {α : Type} {l : List α} {j : Nat} (h : l.length ≤ j) (x : α) : (l ++ [x]).length ≤ j + 1 := by
  rw [List.length_append, List.length_singleton]; omega
theorem step_f0 (l : List OpT) (t : Int) (x : OpT) (errs hows : List Int) (n k off len : Nat) (arr : List Sec) (W : List (Int × Int)) (wr K : List Sec) (hKd : (arr.drop off).take len = K) (hKl : K.length = len) {j : Nat} (hj : j ≤ 90) (hn : n ≤ j) (hk : k ≤ j) (hpart : off + len ≤ arr.length) (harr : arr.length ≤ j) (hW : W.length ≤ j) (hwr : wr.length ≤ j) (hah : okW W len) (hw : ¬ (x.1 = 0 ∨ x.1 = 1)) (h2 : x.1 = 2) (he : (errs[n]?).getD 0 = 0) (c2 : ¬ (hows[k]?).getD 0 = 2) (c1 : ¬ (hows[k]?).getD 0 = 1) :
    ∃ s' : St8, s'.Ok (j + 1) ∧ nodeDq19_n3 (l, t, x.1, errs, hows, (n : Int), (k : Int), errs, hows, (n : Int), (k : Int), off, len, x.1, x.2.1, x.2.2.1, x.2.2.2.1, x.2.2.2.2.1, x.2.2.2.2.2.1, x.2.2.2.2.2.2.1.1, x.2.2.2.2.2.2.1.2.1, x.2.2.2.2.2.2.1.2.2.1, x.2.2.2.2.2.2.1.2.2.2, x.2.2.2.2.2.2.2, [], wr, 0, 0, K, W, arr, W, [], []) = some (true, s'.V) := by
  have hb' : ∀ p ∈ W, 0 ≤ p.2 ∧ p.2 ≤ 1000 := fun p hp => by have := hah p hp; omega
  have h4 := n4_f x hw
  have hfl := cflush_ok (errs := errs) (hows := hows) (n := n) (k := k) (by omega) (by omega) K (by omega) W [] (by omega) hb' wr [] [] he
  have hfd := flushed_eq ((k + 1 : Nat) : Int) ((hows[k]?).getD 0) off len arr W (by omega)
  rw [hKl] at hfl
  rw [if_neg c2] at hfl hfd
  rw [if_neg c1] at hfl hfd
  obtain ⟨Z, hZ⟩ : ∃ Z, Z = W ++ [(((k + 1 : Nat) : Int), (len : Int))] := ⟨_, rfl⟩
  have hZl : Z.length ≤ j + 1 := by rw [hZ]; exact snoc_len hW _
  have hZo : okW Z len := by rw [hZ]; exact okW_snoc hah _
  rw [← hZ] at hfl hfd
  refine ⟨⟨n + 1, k + 1, off, len, arr, Z, wr⟩, ⟨Nat.succ_le_succ hn, Nat.succ_le_succ hk, hpart, Nat.le_succ_of_le harr, hZl, Nat.le_succ_of_le hwr, hZo⟩, ?_⟩
  have e6 : ∀ a b, nodeDq19_n6 (l, t, 0, false, 0, errs, hows, ((n + 1 : Nat) : Int), ((k + 1 : Nat) : Int), errs, hows, ((n + 1 : Nat) : Int), ((k + 1 : Nat) : Int), off, len, a, b, [], wr, 0, 0, K, Z, arr, W, [], []) = some true := fun _ _ => rfl
  simp only [nodeDq19_n3, nodeq19_n3, ibeq, h4, bindO_pure, cond_false, dec_true h2, cond_true]
  rw [next_ok (hows := hows) (show n ≤ 1000 by omega) (show k ≤ 1000 by omega) [] [] he, bindO_pure]
  simp only [unP]
  rw [hfl, bindO_pure, Sum.elim_inl]
  simp only [unP]
  rw [e6, bindO_pure, hfd, bindO_pure]
  simp only [decide_true, cond_true, Sum.elim_inr, St8.V, St8.K, hKd]
theorem step_f (l : List OpT) (t : Int) (x : OpT) (errs hows : List Int) (n k off len : Nat) (arr : List Sec) (W : List (Int × Int)) (wr K : List Sec) (hKd : (arr.drop off).take len = K) (hKl : K.length = len) {j : Nat} (hj : j ≤ 90) (hn : n ≤ j) (hk : k ≤ j) (hpart : off + len ≤ arr.length) (harr : arr.length ≤ j) (hW : W.length ≤ j) (hwr : wr.length ≤ j) (hah : okW W len) (hw : ¬ (x.1 = 0 ∨ x.1 = 1)) (h2 : x.1 = 2) :
    ∃ s' : St8, s'.Ok (j + 1) ∧ nodeDq19_n3 (l, t, x.1, errs, hows, (n : Int), (k : Int), errs, hows, (n : Int), (k : Int), off, len, x.1, x.2.1, x.2.2.1, x.2.2.2.1, x.2.2.2.2.1, x.2.2.2.2.2.1, x.2.2.2.2.2.2.1.1, x.2.2.2.2.2.2.1.2.1, x.2.2.2.2.2.2.1.2.2.1, x.2.2.2.2.2.2.1.2.2.2, x.2.2.2.2.2.2.2, [], wr, 0, 0, K, W, arr, W, [], []) = some (true, s'.V) := by
  by_cases he : (errs[n]?).getD 0 = 0
  · by_cases c2 : (hows[k]?).getD 0 = 2
    · exact step_f2 l t x errs hows n k off len arr W wr K hKd hKl hj hn hk hpart harr hW hwr hah hw h2 he c2
    · by_cases c1 : (hows[k]?).getD 0 = 1
      · exact step_f1 l t x errs hows n k off len arr W wr K hKd hKl hj hn hk hpart harr hW hwr hah hw h2 he c2 c1
      · exact step_f0 l t x errs hows n k off len arr W wr K hKd hKl hj hn hk hpart harr hW hwr hah hw h2 he c2 c1
  · exact step_fe l t x errs hows n k off len arr W wr K hKd hKl hj hn hk hpart harr hW hwr hah hw h2 he
theorem step_c (l : List OpT) (t : Int) (x : OpT) (errs hows : List Int) (n k off len : Nat) (arr : List Sec) (W : List (Int × Int)) (wr K : List Sec) (hKd : (arr.drop off).take len = K) (hKl : K.length = len) {j : Nat} (hj : j ≤ 90) (hn : n ≤ j) (hk : k ≤ j) (hpart : off + len ≤ arr.length) (harr : arr.length ≤ j) (hW : W.length ≤ j) (hwr : wr.length ≤ j) (hah : okW W len) (hw : ¬ (x.1 = 0 ∨ x.1 = 1)) (h2 : ¬ x.1 = 2) (h3 : x.1 = 3) :
    ∃ s' : St8, s'.Ok (j + 1) ∧ nodeDq19_n3 (l, t, x.1, errs, hows, (n : Int), (k : Int), errs, hows, (n : Int), (k : Int), off, len, x.1, x.2.1, x.2.2.1, x.2.2.2.1, x.2.2.2.2.1, x.2.2.2.2.2.1, x.2.2.2.2.2.2.1.1, x.2.2.2.2.2.2.1.2.1, x.2.2.2.2.2.2.1.2.2.1, x.2.2.2.2.2.2.1.2.2.2, x.2.2.2.2.2.2.2, [], wr, 0, 0, K, W, arr, W, [], []) = some (true, s'.V) := by
  have hb' : ∀ p ∈ W, 0 ≤ p.2 ∧ p.2 ≤ 1000 := fun p hp => by have := hah p hp; omega
  have h4 := n4_f x hw
  have hpl := poll_eq x.2.1 (IntKind.wrap .i64 (1 + Int.tmod (x.2.2.1.length : Int) 2)) K (by omega) W (by omega) (by rw [hKl]; exact hah) errs hows (n : Int) (k : Int) wr [] []
  have hcm := came_eq x.2.1 (IntKind.wrap .i64 (1 + Int.tmod (x.2.2.1.length : Int) 2)) off len arr W (by omega) (by omega) hah
  obtain ⟨how, hhow⟩ : ∃ how, how = IntKind.wrap .i64 (1 + Int.tmod (x.2.2.1.length : Int) 2) := ⟨_, rfl⟩
  rw [← hhow] at hpl hcm
  cases hf : firstI x.2.1 W with
  | none =>
    rw [hf] at hcm
    have haf : after x.2.1 how K W = (false, K, W) := by unfold after; rw [hf]
    rw [haf] at hpl
    refine ⟨⟨n, k, off, len, arr, W, wr⟩, ⟨by dsimp only; omega, by dsimp only; omega, hpart, by dsimp only; omega, by dsimp only; omega, by dsimp only; omega, hah⟩, ?_⟩
    simp only [nodeDq19_n3, nodeq19_n3, ibeq, h4, bindO_pure, cond_false, dec_false h2, dec_true h3, cond_true, ← hhow, hpl, unP, hcm, Sum.elim_inl]
    simp only [St8.V, St8.K, hKd, decide_true, beq_self_eq_true, cond_true, bindO_pure, Bool.not_false]
  | some q =>
    obtain ⟨a, r⟩ := q
    obtain ⟨h1, h5, h6, h7⟩ := firstI_ok hah hf
    obtain ⟨a, rfl⟩ : ∃ b : Nat, a = (b : Int) := ⟨a.toNat, by omega⟩
    rw [hf] at hcm
    dsimp only at hcm
    by_cases hh : how = 2
    · have haf : after x.2.1 how K W = (true, K.drop a, r.map (low a)) := by unfold after; rw [hf]; dsimp only; rw [if_pos hh, Int.toNat_natCast]
      rw [haf] at hpl
      rw [if_pos hh, Int.toNat_natCast] at hcm
      have hKa : (arr.drop (off + a)).take (len - a) = K.drop a := by rw [← hKd, List.drop_take, List.drop_drop]
      refine ⟨⟨n, k, off + a, len - a, arr, r.map (low a), wr⟩, ⟨by dsimp only; omega, by dsimp only; omega, by dsimp only; omega, by dsimp only; omega, by rw [List.length_map]; omega, by dsimp only; omega, okW_low h6 (by omega)⟩, ?_⟩
      simp only [nodeDq19_n3, nodeq19_n3, ibeq, h4, bindO_pure, cond_false, dec_false h2, dec_true h3, cond_true, ← hhow, hpl, unP, hcm, Sum.elim_inr]
      simp only [St8.V, St8.K, hKa, decide_true, beq_self_eq_true, cond_true, bindO_pure, Bool.not_false]
    · have haf : after x.2.1 how K W = (false, K, r) := by unfold after; rw [hf]; dsimp only; rw [if_neg hh]
      rw [haf] at hpl
      rw [if_neg hh] at hcm
      refine ⟨⟨n, k, off, len, arr, r, wr⟩, ⟨by dsimp only; omega, by dsimp only; omega, hpart, by dsimp only; omega, by dsimp only; omega, by dsimp only; omega, h6⟩, ?_⟩
      simp only [nodeDq19_n3, nodeq19_n3, ibeq, h4, bindO_pure, cond_false, dec_false h2, dec_true h3, cond_true, ← hhow, hpl, unP, hcm, Sum.elim_inr]
      simp only [St8.V, St8.K, hKd, decide_true, beq_self_eq_true, cond_true, bindO_pure, Bool.not_false]
theorem step_e (l : List OpT) (t : Int) (x : OpT) (errs hows : List Int) (n k off len : Nat) (arr : List Sec) (W : List (Int × Int)) (wr K : List Sec) (hKd : (arr.drop off).take len = K) (hKl : K.length = len) {j : Nat} (hj : j ≤ 90) (hn : n ≤ j) (hk : k ≤ j) (hpart : off + len ≤ arr.length) (harr : arr.length ≤ j) (hW : W.length ≤ j) (hwr : wr.length ≤ j) (hah : okW W len) (hw : ¬ (x.1 = 0 ∨ x.1 = 1)) (h2 : ¬ x.1 = 2) (h3 : ¬ x.1 = 3) :
    ∃ s' : St8, s'.Ok (j + 1) ∧ nodeDq19_n3 (l, t, x.1, errs, hows, (n : Int), (k : Int), errs, hows, (n : Int), (k : Int), off, len, x.1, x.2.1, x.2.2.1, x.2.2.2.1, x.2.2.2.2.1, x.2.2.2.2.2.1, x.2.2.2.2.2.2.1.1, x.2.2.2.2.2.2.1.2.1, x.2.2.2.2.2.2.1.2.2.1, x.2.2.2.2.2.2.1.2.2.2, x.2.2.2.2.2.2.2, [], wr, 0, 0, K, W, arr, W, [], []) = some (true, s'.V) := by
  have h4 := n4_f x hw
  refine ⟨⟨n, k, off, len, arr, W, wr⟩, ⟨by dsimp only; omega, by dsimp only; omega, hpart, by dsimp only; omega, by dsimp only; omega, by dsimp only; omega, hah⟩, ?_⟩
  simp only [nodeDq19_n3, nodeq19_n3, ibeq, h4, bindO_pure, dec_false h2, dec_false h3, cond_false]
  simp only [St8.V, St8.K, hKd]

theorem step3 (l : List OpT) (t : Int) (x : OpT) (errs hows : List Int) (s : St8) {j : Nat} (hj : j ≤ 90) (hs : s.Ok j) :
    ∃ s' : St8, s'.Ok (j + 1) ∧ nodeDq19_n3 (l, t, x.1, errs, hows, (s.n : Int), (s.k : Int), errs, hows, (s.n : Int), (s.k : Int), s.off, s.len, x.1, x.2.1, x.2.2.1, x.2.2.2.1, x.2.2.2.2.1, x.2.2.2.2.2.1, x.2.2.2.2.2.2.1.1, x.2.2.2.2.2.2.1.2.1, x.2.2.2.2.2.2.1.2.2.1, x.2.2.2.2.2.2.1.2.2.2, x.2.2.2.2.2.2.2, [], s.wr, 0, 0, s.K, s.W, s.arr, s.W, [], []) = some (true, s'.V) := by
  have hKl := St8.Klen hs
  obtain ⟨hn, hk, hpart, harr, hW, hwr, hah⟩ := hs
  by_cases hw : x.1 = 0 ∨ x.1 = 1
  · exact step_w l t x errs hows s.n s.k s.off s.len s.arr s.W s.wr s.K rfl hKl hj hn hk hpart harr hW hwr hah hw
  · by_cases h2 : x.1 = 2
    · exact step_f l t x errs hows s.n s.k s.off s.len s.arr s.W s.wr s.K rfl hKl hj hn hk hpart harr hW hwr hah hw h2
    · by_cases h3 : x.1 = 3
      · exact step_c l t x errs hows s.n s.k s.off s.len s.arr s.W s.wr s.K rfl hKl hj hn hk hpart harr hW hwr hah hw h2 h3
      · exact step_e l t x errs hows s.n s.k s.off s.len s.arr s.W s.wr s.K rfl hKl hj hn hk hpart harr hW hwr hah hw h2 h3
theorem round (l : List OpT) (errs hows : List Int) (s : St8) {j : Nat} (hj : j < l.length) (hl : l.length ≤ 90) (hs : s.Ok j) :
    ∃ s' : St8, s'.Ok (j + 1) ∧ stepDq19_n1 (l, errs, hows, errs, hows) ((j : Int), s.V) = some (.inl (((j + 1 : Nat) : Int), s'.V)) := by
  have hg := List.getElem?_eq_getElem hj
  generalize l[j] = x at hg
  obtain ⟨s', hok, h3⟩ := step3 l (j : Int) x errs hows s (by omega) hs
  refine ⟨s', hok, ?_⟩
  have hKl := St8.Klen hok
  have hka := kept_eq s'.K (by have := hok.part; have := hok.arr; omega) 0 errs hows (s'.n : Int) (s'.k : Int) 0 0 s'.W [] s'.wr [] [] [] []
  have hse : fnDq18 (s'.K, List.take s'.len (List.drop s'.off s'.arr)) = some true := Sectors_refl s'.K (by have := hok.part; have := hok.arr; omega)
  have hat : fnDq1 (0, errs, hows, (s'.n : Int), (s'.k : Int), 0, 0, s'.K, s'.W, [], s'.wr, [], [], [], []) = some () := rfl
  have h7 : nodeDq19_n7 (l, (j : Int), true, errs, hows, (s'.n : Int), (s'.k : Int), errs, hows, (s'.n : Int), (s'.k : Int), s'.off, s'.len, [], s'.wr, 0, 0, s'.K, s'.W, s'.arr, s'.W, [], []) = some false := by
    simp only [nodeDq19_n7, nodeq19_n7, Bool.not_true, cond_false, hka, bindO_pure, ble_true hok.part, cond_true, hse, hat]
  simp only [stepDq19_n1, stepq19_n1, dec_true (show (j : Int) < (l.length : Int) by omega), cond_true, nodeDq19_n2, nodeq19_n2, nth_of hg, bindO_pure, h3, unP, h7, cond_false, Sum.elim_inr, wrap64_nat (show j < 9223372036854775807 by omega)]
theorem ClientDoes_true (l : List OpT) (errs hows : List Int) (hl : l.length ≤ 9223372036854775807) : fnDq19 (l, errs, hows) = some true := by
  obtain ⟨b, hb, hb90⟩ := great44 l hl
  have h0 : ∃ r, nodeDq19_n0 (l, errs, hows) = some r ∧ (r = false → l.length ≤ 90) := by
    simp only [nodeDq19_n0, nodeq19_n0, hb, bindO_pure]
    cases b with
    | true => exact ⟨true, rfl, fun e => by cases e⟩
    | false =>
      rw [cond_false]
      cases decide ((errs.length : Int) > 200)
      · exact ⟨_, rfl, fun _ => hb90 rfl⟩
      · exact ⟨_, rfl, fun e => by cases e⟩
  obtain ⟨r, h0, hr⟩ := h0
  cases r with
  | true => simp only [fnDq19, fnq19, works44, h0, bindO_pure, Bool.not_true, cond_false, cond_true]
  | false =>
    have h90 := hr rfl
    have hnew : fnDq17 (errs, hows, 0, 0, 0, 0, [], [], [], [], [], []) = some () := rfl
    have key : ∃ y, loopD (stepDq19_n1 (l, errs, hows, errs, hows)) FUEL (((0 : Nat) : Int), (St8.mk 0 0 0 0 [] [] []).V) = some y ∧ y = .inr () := by
      refine loopD_inv (fun j v => j ≤ l.length ∧ ∃ s : St8, s.Ok j ∧ v = ((j : Int), s.V)) l.length _ ?_ ⟨Nat.zero_le _, _, ⟨Nat.le_refl _, Nat.le_refl _, Nat.le_refl _, Nat.le_refl _, Nat.le_refl _, Nat.le_refl _, fun p hp => by cases hp⟩, rfl⟩ (by omega)
      rintro j v ⟨hj, s, hs, rfl⟩
      by_cases hlt : j < l.length
      · left
        obtain ⟨s', hok, h⟩ := round l errs hows s hlt h90 hs
        exact ⟨_, h, hlt, hlt, s', hok, rfl⟩
      · right
        exact ⟨.inr (), by simp only [stepDq19_n1, stepq19_n1, dec_false (show ¬ (j : Int) < (l.length : Int) by omega), cond_false], rfl⟩
    obtain ⟨y, hy, rfl⟩ := key
    have hy' : loopD (stepDq19_n1 (l, errs, hows, errs, hows)) FUEL (0, 0, 0, 0, 0, nat_lit 0, nat_lit 0, [], [], 0, 0, [], [], [], [], [], []) = some (.inr ()) := hy
    simp only [fnDq19, fnq19, works44, h0, bindO_pure, Bool.not_true, cond_false, hnew, hy', Sum.elim_inr]
end Go.Proofs.R8

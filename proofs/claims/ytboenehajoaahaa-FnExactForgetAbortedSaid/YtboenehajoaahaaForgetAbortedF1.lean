import Derived.KernelRfl
import Derived.Test.YtboenehajoaahaaForgetAbortedF0
import Derived.Test.YtboenehajoaahaaAmW
import Derived.Test.YtboenehajoaahaaAmRw
import Derived.Test.YtboenehajoaahaaAmBd
namespace Go.Proofs.Ytboenehajoaahaa.Am
open Go
set_option linter.unusedVariables false
set_option maxRecDepth 100000
def f81_b0 : AC :=
 (.seq (.seq (rg [oo 9 (.mv (.t 4)),
  oo 10 (.faddr 2 2 (.t 1)),
  oo 11 (.load false 1 (.t 10)),
  oo 12 (.len false (.t 11)),
  oo 13 (.bin .lss (.t 9) (.t 12))])
 (.cond (.t 13) .skip (.exit 0)))
 (.seq (.block 1 (.seq (rg [oo 16 (.faddr 2 2 (.t 1)),
  oo 17 (.load false 1 (.t 16)),
  oo 18 (.mv (.t 4)),
  oo 19 (.iaddr 9 (.t 17) (.t 18)),
  oo 20 (.faddr 2 2 (.t 19)),
  oo 21 (.load false 1 (.t 20)),
  oo 22 (.bin .neq (.t 21) (ci 3))])
 (.cond (.t 22) (.seq (rg [oo 23 (.faddr 2 2 (.t 1)),
  oo 24 (.load false 1 (.t 23)),
  oo 25 (.mv (.t 4)),
  oo 26 (.iaddr 9 (.t 24) (.t 25)),
  oo 27 (.load true 9 (.t 26)),
  oo 28 (.callF 28 false [(.agg [.int, .int, .int, .int, .int, .int, .int, (.sl 2), (.sl 2)])] 212 [(.t 27)]),
  oo 5 (.alloc 5 (.agg [(.int .i64 0), (.int .i64 0), (.int .i64 0), (.int .i64 0), (.int .i64 0), (.int .i64 0), (.int .i64 0), (.nsl 2), (.nsl 2)])),
  ⟨none, .storeM 3002 9 (.t 5) (.t 28), none⟩])
 (rg [oo 29 (.faddr 2 2 (.t 3)),
  oo 30 (.loadO (.sl 9) (.t 29)),
  oo 31 (.loadO (.agg [.int, .int, .int, .int, .int, .int, .int, (.sl 2), (.sl 2)]) (.t 5)),
  oo 32 (.bslice 2 32 9 1 (.agg [(.int .i64 0), (.int .i64 0), (.int .i64 0), (.int .i64 0), (.int .i64 0), (.int .i64 0), (.int .i64 0), (.nsl 2), (.nsl 2)]) [(0, (.t 31))]),
  oo 33 (.append true 33 9 104 (.t 30) (.t 32)),
  oo 34 (.faddr 2 2 (.t 3)),
  ⟨none, .storeE 1 (.t 34) (.t 33), none⟩])) .skip)))
 (rg [oo 14 (.mv (.t 4)),
  oo 15 (.bin .add (.t 14) (ci 1)),
  oo 4 (.mv (.t 15))])))
def f81_r0 : AC :=
 (.seq (rg [oo 35 (.loadO (.agg [.bool, (.agg [(.sl 1)]), (.sl 9), (.sl 2), (.sl 2), .int]) (.t 3)),
  ⟨none, .storeM 3003 6 (.t 2) (.t 35), none⟩])
 .ret)
def f81_ac : AC :=
 (.seq (rg [oo 1 (.box false 1 (.t 0)),
  oo 2 (.alloc 2 (.agg [(.bool false), (.agg [(.nsl 1)]), (.nsl 9), (.nsl 2), (.nsl 2), (.int .i64 0)]))])
 (.seq (rg [oo 6 (.load true 6 (.t 1)),
  oo 7 (.callF 7 false [(.agg [.bool, (.agg [(.sl 1)]), (.sl 9), (.sl 2), (.sl 2), .int])] 344 [(.t 6)]),
  oo 3 (.alloc 3 (.agg [(.bool false), (.agg [(.nsl 1)]), (.nsl 9), (.nsl 2), (.nsl 2), (.int .i64 0)])),
  ⟨none, .storeM 3000 6 (.t 3) (.t 7), none⟩])
 (.seq (rg [oo 8 (.faddr 2 2 (.t 3)),
  ⟨none, .storeM 3001 1 (.t 8) (.c (.nsl 9)), none⟩])
 (.seq (.seq (rg [oo 4 (.mv (ci 0))])
 (.block 0 (.loop ⟨[1, 2, 3, 4], [], [(1, false), (2, false), (3, false)]⟩ f81_b0)))
 f81_r0))))
noncomputable def f81_l0a (E : Env) (x4 : U) (b1 : U) (b2_0 : U) (b2_1 : U) (b3_0 : U) (b3_1 : List U) (b3_2 : List U) (b3_3 : List U) (b3_4 : U) : Option U := loopK (roundOf E ⟨[1, 2, 3, 4], [], [(1, false), (2, false), (3, false)]⟩ f81_b0 (blockK 0 (seqK (fun s => exec E f81_r0 s (finishF [(2, some (true, 6))])) (finishF [(2, some (true, 6))])))) ([.ptr 1 [], .ptr 2 [], .ptr 3 [], .val x4], [.box (.val b1), .box (.val (.agg [b2_0, (.agg [(.nsl 1)]), (.nsl 9), (.nsl 2), (.nsl 2), b2_1])), .box (.agg [.val b3_0, .agg [.own (.sl 1 b3_1)], .val (.nsl 9), .own (.sl 2 b3_2), .own (.sl 2 b3_3), .val b3_4])])
noncomputable def f81_l0b (E : Env) (x4 : U) (b1 : U) (b2_0 : U) (b2_1 : U) (b3_0 : U) (b3_1 : List U) (b3_2 : List U) (b3_3 : List U) (b3_4 : List U) (b3_5 : U) : Option U := loopK (roundOf E ⟨[1, 2, 3, 4], [], [(1, false), (2, false), (3, false)]⟩ f81_b0 (blockK 0 (seqK (fun s => exec E f81_r0 s (finishF [(2, some (true, 6))])) (finishF [(2, some (true, 6))])))) ([.ptr 1 [], .ptr 2 [], .ptr 3 [], .val x4], [.box (.val b1), .box (.val (.agg [b2_0, (.agg [(.nsl 1)]), (.nsl 9), (.nsl 2), (.nsl 2), b2_1])), .box (.agg [.val b3_0, .agg [.own (.sl 1 b3_1)], .own (.sl 9 b3_2), .own (.sl 2 b3_3), .own (.sl 2 b3_4), .val b3_5])])
theorem Qlt (E : Env) (x4 : U) (b1 : U) (b2_0 : U) (b2_1 : U) (b3_0 : U) (b3_1 : List U) (b3_2 : List U) (b3_3 : List U) (b3_4 : U) : f81_l0a E x4 b1 b2_0 b2_1 b3_0 b3_1 b3_2 b3_3 b3_4 =
 U.asAgg b1 fun us27 => if 2 = sizes (us27.take 2) then (us27[2]?).bind fun e28 => U.asVar false 1 e28 fun e29 => (U.lenOf false e29).bind fun n30 => (U.bin .lss x4 (.int .i64 (n30 : Int))).bind fun t31 => U.asBool t31
 (U.asAgg b1 fun us32 => if 2 = sizes (us32.take 2) then (us32[2]?).bind fun e33 => U.asVar false 1 e33 fun e34 => U.asInt x4 fun n35 => U.elemAt 9 e34 n35 fun e36 => U.fieldAt 2 2 e36 fun f37 => U.asVar false 1 f37 fun e38 => (U.bin .neq e38 (.int .i64 3)).bind fun t39 => U.asBool t39
 (U.asAgg b1 fun us40 => if 2 = sizes (us40.take 2) then (us40[2]?).bind fun e41 => U.asVar false 1 e41 fun e42 => U.asInt x4 fun n43 => U.elemAt 9 e42 n43 fun e44 => U.asVar true 9 e44 fun e45 => (E 100212 [e45]).bind fun t46 => U.noTup t46 fun x47 => U.asAgg x47 fun us48 => (match us48 with
 | u49 :: us50 => (U.asInt u49 fun n51 => (match us50 with
 | u52 :: us53 => (U.asInt u52 fun n54 => (match us53 with
 | u55 :: us56 => (U.asInt u55 fun n57 => (match us56 with
 | u58 :: us59 => (U.asInt u58 fun n60 => (match us59 with
 | u61 :: us62 => (U.asInt u61 fun n63 => (match us62 with
 | u64 :: us65 => (U.asInt u64 fun n66 => (match us65 with
 | u67 :: us68 => (U.asInt u67 fun n69 => (match us68 with
 | u70 :: us71 => (U.asSlK 2 u70 fun us72 => (match us71 with
 | u73 :: us74 => (U.asSlK 2 u73 fun us75 => (match us74 with
 | [] => (if 2 = dsizes [.val b3_0, .agg [.own (.sl 1 b3_1)]] then if 9 = 9 ∧ ([(.agg [(.int .i64 n51), (.int .i64 n54), (.int .i64 n57), (.int .i64 n60), (.int .i64 n63), (.int .i64 n66), (.int .i64 n69), (.sl 2 us72), (.sl 2 us75)])] : List U).length * 104 ≤ 140737488355328 then if 2 = dsizes [.val b3_0, .agg [.own (.sl 1 b3_1)]] then (U.bin .add x4 (.int .i64 1)).bind fun t76 => f81_l0b E t76 b1 b2_0 b2_1 b3_0 b3_1 [(.agg [(.int .i64 n51), (.int .i64 n54), (.int .i64 n57), (.int .i64 n60), (.int .i64 n63), (.int .i64 n66), (.int .i64 n69), (.sl 2 us72), (.sl 2 us75)])] b3_2 b3_3 b3_4 else none else none else none)
 | _ => none))
 | [] => none))
 | [] => none))
 | [] => none))
 | [] => none))
 | [] => none))
 | [] => none))
 | [] => none))
 | [] => none))
 | [] => none) else none)
 ((U.bin .add x4 (.int .i64 1)).bind fun t77 => f81_l0a E t77 b1 b2_0 b2_1 b3_0 b3_1 b3_2 b3_3 b3_4) else none)
 (U.asB b3_0 fun b78 => U.asInt b3_4 fun n79 => if ((.agg [b2_0, (.agg [(.nsl 1)]), (.nsl 9), (.nsl 2), (.nsl 2), b2_1]) : U).size = ((.agg [b2_0, (.agg [(.nsl 1)]), (.nsl 9), (.nsl 2), (.nsl 2), b2_1]) : U).size then if 1 = dsizes [.val b3_0] then if 1 = dsizes [.val b3_0] then if 3 = dsizes [.val b3_0, .agg [.junk 1], .val (.nsl 9)] then if 3 = dsizes [.val b3_0, .agg [.junk 1], .val (.nsl 9)] then if 4 = dsizes [.val b3_0, .agg [.junk 1], .val (.nsl 9), .junk 1] then if 4 = dsizes [.val b3_0, .agg [.junk 1], .val (.nsl 9), .junk 1] then if ((.agg [b2_0, (.agg [(.nsl 1)]), (.nsl 9), (.nsl 2), (.nsl 2), b2_1]) : U).size = 6 then some (.agg [(.bool b78), (.agg [(.sl 1 b3_1)]), (.sl 9 []), (.sl 2 b3_2), (.sl 2 b3_3), (.int .i64 n79)]) else none else none else none else none else none else none else none else none) else none := (Qf E _ _ _ _).trans (by kernel_rfl)
theorem Qlv (E : Env) (x4 : U) (b1 : U) (b2_0 : U) (b2_1 : U) (b3_0 : U) (b3_1 : List U) (b3_2 : List U) (b3_3 : List U) (b3_4 : List U) (b3_5 : U) : f81_l0b E x4 b1 b2_0 b2_1 b3_0 b3_1 b3_2 b3_3 b3_4 b3_5 =
 U.asAgg b1 fun us80 => if 2 = sizes (us80.take 2) then (us80[2]?).bind fun e81 => U.asVar false 1 e81 fun e82 => (U.lenOf false e82).bind fun n83 => (U.bin .lss x4 (.int .i64 (n83 : Int))).bind fun t84 => U.asBool t84
 (U.asAgg b1 fun us85 => if 2 = sizes (us85.take 2) then (us85[2]?).bind fun e86 => U.asVar false 1 e86 fun e87 => U.asInt x4 fun n88 => U.elemAt 9 e87 n88 fun e89 => U.fieldAt 2 2 e89 fun f90 => U.asVar false 1 f90 fun e91 => (U.bin .neq e91 (.int .i64 3)).bind fun t92 => U.asBool t92
 (U.asAgg b1 fun us93 => if 2 = sizes (us93.take 2) then (us93[2]?).bind fun e94 => U.asVar false 1 e94 fun e95 => U.asInt x4 fun n96 => U.elemAt 9 e95 n96 fun e97 => U.asVar true 9 e97 fun e98 => (E 100212 [e98]).bind fun t99 => U.noTup t99 fun x100 => U.asAgg x100 fun us101 => (match us101 with
 | u102 :: us103 => (U.asInt u102 fun n104 => (match us103 with
 | u105 :: us106 => (U.asInt u105 fun n107 => (match us106 with
 | u108 :: us109 => (U.asInt u108 fun n110 => (match us109 with
 | u111 :: us112 => (U.asInt u111 fun n113 => (match us112 with
 | u114 :: us115 => (U.asInt u114 fun n116 => (match us115 with
 | u117 :: us118 => (U.asInt u117 fun n119 => (match us118 with
 | u120 :: us121 => (U.asInt u120 fun n122 => (match us121 with
 | u123 :: us124 => (U.asSlK 2 u123 fun us125 => (match us124 with
 | u126 :: us127 => (U.asSlK 2 u126 fun us128 => (match us127 with
 | [] => (if 2 = dsizes [.val b3_0, .agg [.own (.sl 1 b3_1)]] then if 2 = dsizes [.val b3_0, .agg [.own (.sl 1 b3_1)]] then if 2 = dsizes [.val b3_0, .agg [.own (.sl 1 b3_1)]] then if ((b3_2).length + ([(.agg [(.int .i64 n104), (.int .i64 n107), (.int .i64 n110), (.int .i64 n113), (.int .i64 n116), (.int .i64 n119), (.int .i64 n122), (.sl 2 us125), (.sl 2 us128)])] : List U).length) * 104 ≤ 140737488355328 then if 2 = dsizes [.val b3_0, .agg [.own (.sl 1 b3_1)]] then (U.bin .add x4 (.int .i64 1)).bind fun t129 => f81_l0b E t129 b1 b2_0 b2_1 b3_0 b3_1 (b3_2 ++ ([(.agg [(.int .i64 n104), (.int .i64 n107), (.int .i64 n110), (.int .i64 n113), (.int .i64 n116), (.int .i64 n119), (.int .i64 n122), (.sl 2 us125), (.sl 2 us128)])] : List U)) b3_3 b3_4 b3_5 else none else none else none else none else none)
 | _ => none))
 | [] => none))
 | [] => none))
 | [] => none))
 | [] => none))
 | [] => none))
 | [] => none))
 | [] => none))
 | [] => none))
 | [] => none) else none)
 ((U.bin .add x4 (.int .i64 1)).bind fun t130 => f81_l0b E t130 b1 b2_0 b2_1 b3_0 b3_1 b3_2 b3_3 b3_4 b3_5) else none)
 (U.asB b3_0 fun b131 => U.asInt b3_5 fun n132 => if ((.agg [b2_0, (.agg [(.nsl 1)]), (.nsl 9), (.nsl 2), (.nsl 2), b2_1]) : U).size = ((.agg [b2_0, (.agg [(.nsl 1)]), (.nsl 9), (.nsl 2), (.nsl 2), b2_1]) : U).size then if 1 = dsizes [.val b3_0] then if 1 = dsizes [.val b3_0] then if 2 = dsizes [.val b3_0, .agg [.junk 1]] then if 2 = dsizes [.val b3_0, .agg [.junk 1]] then if 3 = dsizes [.val b3_0, .agg [.junk 1], .junk 1] then if 3 = dsizes [.val b3_0, .agg [.junk 1], .junk 1] then if 4 = dsizes [.val b3_0, .agg [.junk 1], .junk 1, .junk 1] then if 4 = dsizes [.val b3_0, .agg [.junk 1], .junk 1, .junk 1] then if ((.agg [b2_0, (.agg [(.nsl 1)]), (.nsl 9), (.nsl 2), (.nsl 2), b2_1]) : U).size = 6 then some (.agg [(.bool b131), (.agg [(.sl 1 b3_1)]), (.sl 9 b3_2), (.sl 2 b3_3), (.sl 2 b3_4), (.int .i64 n132)]) else none else none else none else none else none else none else none else none else none else none) else none := (Qf E _ _ _ _).trans (by kernel_rfl)
structure G_f81 (E : Env) : Prop where
  is : Is E 100343 1 f81_ac [(2, some (true, 6))]
  c_f83 : G_f83 E
  c_f87 : G_f87 E
theorem f81_E {E : Env} (h : G_f81 E) (a0 : U) : E 100343 [a0] =
 U.noTup a0 fun x1 => U.asVar true 6 x1 fun e2 => (E 100344 [e2]).bind fun t3 => U.noTup t3 fun x4 => U.asAgg x4 fun us5 => (match us5 with
 | u6 :: us7 => (U.asB u6 fun b8 => (match us7 with
 | u9 :: us10 => (U.asAgg u9 fun us11 => (match us11 with
 | u12 :: us13 => (U.asSlK 1 u12 fun us14 => (match us13 with
 | [] => ((match us10 with
 | u15 :: us16 => (U.asSlK 9 u15 fun us17 => (match us16 with
 | u18 :: us19 => (U.asSlK 2 u18 fun us20 => (match us19 with
 | u21 :: us22 => (U.asSlK 2 u21 fun us23 => (match us22 with
 | u24 :: us25 => (U.asInt u24 fun n26 => (match us25 with
 | [] => (f81_l0a E (.int .i64 0) x1 (.bool false) (.int .i64 0) (.bool b8) us14 us20 us23 (.int .i64 n26))
 | _ => none))
 | [] => none))
 | [] => none))
 | [] => none))
 | [] => none))
 | _ => none))
 | [] => none))
 | [] => none))
 | [] => none) := (h.is _ rfl).trans ((Qt rfl).trans (by kernel_rfl))
def f67_b0 : AC :=
 (.seq (.seq (rg [oo 8 (.mv (.t 4)),
  oo 9 (.mv (.t 0)),
  oo 10 (.len false (.t 9)),
  oo 11 (.bin .lss (.t 8) (.t 10))])
 (.cond (.t 11) .skip (.exit 0)))
 (.seq (.block 1 (rg [oo 14 (.mv (.t 3)),
  oo 15 (.mv (.t 4)),
  oo 16 (.mv (.t 0)),
  oo 17 (.mv (.t 4)),
  oo 18 (.iaddr 5 (.t 16) (.t 17)),
  oo 19 (.load true 5 (.t 18)),
  oo 20 (.call false 109 [(.t 19)]),
  oo 21 (.iaddr 5 (.t 14) (.t 15)),
  ⟨none, .store 5 (.t 21) (.t 20), none⟩]))
 (rg [oo 12 (.mv (.t 4)),
  oo 13 (.bin .add (.t 12) (ci 1)),
  oo 4 (.mv (.t 13))])))
def f67_r0 : AC :=
 (.seq (rg [oo 22 (.mv (.t 3)),
  oo 2 (.mv (.t 22))])
 .ret)
def f67_ac : AC :=
 (.seq (rg [oo 2 (.mv (.c (.nsl 5)))])
 (.seq (rg [oo 5 (.mv (.t 0)),
  oo 6 (.len false (.t 5)),
  oo 7 (.mkslice 7 5 40 (.agg [(.int .i64 0), (.int .i64 0), (.int .i64 0), (.int .i64 0), (.int .i64 0)]) (.t 6) (.t 6)),
  oo 3 (.mv (.t 7))])
 (.seq (.seq (rg [oo 4 (.mv (ci 0))])
 (.block 0 (.loop ⟨[0, 4], [(3, 5, false)], []⟩ f67_b0)))
 f67_r0)))
noncomputable def f67_l0 (E : Env) (x0 : U) (x4 : U) (c3 : List U) : Option U := loopK (roundOf E ⟨[0, 4], [(3, 5, false)], []⟩ f67_b0 (blockK 0 (seqK (fun s => exec E f67_r0 s (finishF [(2, none)])) (finishF [(2, none)])))) ([.val x0, .val x4], [.vir (.asl 5 c3)])
theorem Qlf (E : Env) (x0 : U) (x4 : U) (c3 : List U) : f67_l0 E x0 x4 c3 =
 (U.lenOf false x0).bind fun n2 => (U.bin .lss x4 (.int .i64 (n2 : Int))).bind fun t3 => U.asBool t3
 (U.asInt x4 fun n4 => U.elemAt 5 x0 n4 fun e5 => U.asVar true 5 e5 fun e6 => (E 109 [e6]).bind fun t7 => U.asInt x4 fun n8 => if 5 = 5 ∧ 0 ≤ n8 ∧ n8 < ((c3).length : Int) then if storable (.val t7) = true ∧ t7.size = 5 then (c3[(n8 : Int).toNat]?).bind fun e9 => if e9.size = 5 then (U.bin .add x4 (.int .i64 1)).bind fun t10 => f67_l0 E x0 t10 (c3.set (n8 : Int).toNat t7) else none else none else none)
 (if U.flat.flats c3 = true then some (.sl 5 c3) else none) := (Qf E _ _ _ _).trans (by kernel_rfl)
structure G_f67 (E : Env) : Prop where
  is : Is E 100108 1 f67_ac [(2, none)]
  c_f63 : G_f63 E
theorem f67_E {E : Env} (h : G_f67 E) (a0 : U) : E 100108 [a0] =
 (U.lenOf false a0).bind fun n1 => if 0 ≤ (n1 : Int) ∧ (n1 : Int) ≤ (n1 : Int) ∧ (n1 : Int) * 40 ≤ 140737488355328 ∧ ((.agg [(.int .i64 0), (.int .i64 0), (.int .i64 0), (.int .i64 0), (.int .i64 0)]) : U).size = 5 then f67_l0 E a0 (.int .i64 0) (List.replicate ((n1 : Int) : Int).toNat (.agg [(.int .i64 0), (.int .i64 0), (.int .i64 0), (.int .i64 0), (.int .i64 0)])) else none := (h.is _ rfl).trans ((Qt rfl).trans (by kernel_rfl))
def f66_b0 : AC :=
 (.seq (.seq (rg [oo 8 (.mv (.t 4)),
  oo 9 (.mv (.t 0)),
  oo 10 (.len false (.t 9)),
  oo 11 (.bin .lss (.t 8) (.t 10))])
 (.cond (.t 11) .skip (.exit 0)))
 (.seq (.block 1 (rg [oo 14 (.mv (.t 3)),
  oo 15 (.mv (.t 4)),
  oo 16 (.mv (.t 0)),
  oo 17 (.mv (.t 4)),
  oo 18 (.iaddr 1 (.t 16) (.t 17)),
  oo 19 (.load false 1 (.t 18)),
  oo 20 (.callF 20 false [(.sl 5)] 108 [(.t 19)]),
  oo 21 (.iaddr 1 (.t 14) (.t 15)),
  ⟨none, .storeE 1 (.t 21) (.t 20), none⟩]))
 (rg [oo 12 (.mv (.t 4)),
  oo 13 (.bin .add (.t 12) (ci 1)),
  oo 4 (.mv (.t 13))])))
def f66_r0 : AC :=
 (.seq (rg [oo 22 (.mv (.t 3)),
  oo 2 (.mv (.t 22))])
 .ret)
def f66_ac : AC :=
 (.seq (rg [oo 2 (.mv (.c (.nsl 1)))])
 (.seq (rg [oo 5 (.mv (.t 0)),
  oo 6 (.len false (.t 5)),
  oo 7 (.mkslice 7 1 24 (.nsl 5) (.t 6) (.t 6)),
  oo 3 (.mv (.t 7))])
 (.seq (.seq (rg [oo 4 (.mv (ci 0))])
 (.block 0 (.loop ⟨[0, 4], [(3, 1, true)], []⟩ f66_b0)))
 f66_r0)))
noncomputable def f66_l0 (E : Env) (x0 : U) (x4 : U) (c3 : List U) : Option U := loopK (roundOf E ⟨[0, 4], [(3, 1, true)], []⟩ f66_b0 (blockK 0 (seqK (fun s => exec E f66_r0 s (finishF [(2, none)])) (finishF [(2, none)])))) ([.val x0, .val x4], [.vir (.own (.sl 1 c3))])
theorem Qlc (E : Env) (x0 : U) (x4 : U) (c3 : List U) : f66_l0 E x0 x4 c3 =
 (U.lenOf false x0).bind fun n2 => (U.bin .lss x4 (.int .i64 (n2 : Int))).bind fun t3 => U.asBool t3
 (U.asInt x4 fun n4 => U.elemAt 1 x0 n4 fun e5 => U.asVar false 1 e5 fun e6 => (E 100108 [e6]).bind fun t7 => U.noTup t7 fun x8 => U.asSlK 5 x8 fun us9 => U.asInt x4 fun n10 => if 1 = 1 ∧ 0 ≤ n10 ∧ n10 < (c3.length : Int) then (c3[(n10 : Int).toNat]?).bind fun e11 => if e11.size = 1 then (U.bin .add x4 (.int .i64 1)).bind fun t12 => f66_l0 E x0 t12 (c3.set (n10 : Int).toNat (.sl 5 us9)) else none else none)
 (some (.sl 1 c3)) := (Qf E _ _ _ _).trans (by kernel_rfl)
structure G_f66 (E : Env) : Prop where
  is : Is E 100107 1 f66_ac [(2, none)]
  c_f67 : G_f67 E
theorem f66_E {E : Env} (h : G_f66 E) (a0 : U) : E 100107 [a0] =
 (U.lenOf false a0).bind fun n1 => if 0 ≤ (n1 : Int) ∧ (n1 : Int) ≤ (n1 : Int) ∧ (n1 : Int) * 24 ≤ 140737488355328 ∧ ((.nsl 5) : U).size = 1 then if U.flat.flats (List.replicate ((n1 : Int) : Int).toNat (.nsl 5)) = true then f66_l0 E a0 (.int .i64 0) (List.replicate ((n1 : Int) : Int).toNat (.nsl 5)) else none else none := (h.is _ rfl).trans ((Qt rfl).trans (by kernel_rfl))
def f58_ac : AC :=
 (.seq (rg [oo 1 (.box false 1 (.t 0)),
  oo 2 (.alloc 2 (.agg [(.nsl 1)]))])
 (.seq (rg [oo 3 (.alloc 3 (.agg [(.nsl 1)]))])
 (.seq (rg [oo 4 (.faddr 0 0 (.t 1)),
  oo 5 (.load false 1 (.t 4)),
  oo 6 (.callF 6 false [(.sl 1)] 107 [(.t 5)]),
  oo 7 (.faddr 0 0 (.t 3)),
  ⟨none, .storeM 3000 1 (.t 7) (.t 6), none⟩])
 (.seq (rg [oo 8 (.loadO (.agg [(.sl 1)]) (.t 3)),
  ⟨none, .storeM 3001 1 (.t 2) (.t 8), none⟩])
 .ret))))
structure G_f58 (E : Env) : Prop where
  is : Is E 100093 1 f58_ac [(2, some (true, 1))]
  c_f66 : G_f66 E
theorem f58_E {E : Env} (h : G_f58 E) (a0 : U) : E 100093 [a0] =
 U.noTup a0 fun x1 => U.asAgg x1 fun us2 => if 0 = sizes (us2.take 0) then (us2[0]?).bind fun e3 => U.asVar false 1 e3 fun e4 => (E 100107 [e4]).bind fun t5 => U.noTup t5 fun x6 => U.asSlK 1 x6 fun us7 => some (.agg [(.sl 1 us7)]) else none := (h.is _ rfl).trans ((Qt rfl).trans (by kernel_rfl))
def f56_b0 : AC :=
 (.seq (.seq (rg [oo 8 (.mv (.t 4)),
  oo 9 (.mv (.t 0)),
  oo 10 (.len false (.t 9)),
  oo 11 (.bin .lss (.t 8) (.t 10))])
 (.cond (.t 11) .skip (.exit 0)))
 (.seq (.block 1 (rg [oo 14 (.mv (.t 3)),
  oo 15 (.mv (.t 4)),
  oo 16 (.mv (.t 0)),
  oo 17 (.mv (.t 4)),
  oo 18 (.iaddr 2 (.t 16) (.t 17)),
  oo 19 (.load true 2 (.t 18)),
  oo 20 (.call false 29 [(.t 19)]),
  oo 21 (.iaddr 2 (.t 14) (.t 15)),
  ⟨none, .store 2 (.t 21) (.t 20), none⟩]))
 (rg [oo 12 (.mv (.t 4)),
  oo 13 (.bin .add (.t 12) (ci 1)),
  oo 4 (.mv (.t 13))])))
def f56_r0 : AC :=
 (.seq (rg [oo 22 (.mv (.t 3)),
  oo 2 (.mv (.t 22))])
 .ret)
def f56_ac : AC :=
 (.seq (rg [oo 2 (.mv (.c (.nsl 2)))])
 (.seq (rg [oo 5 (.mv (.t 0)),
  oo 6 (.len false (.t 5)),
  oo 7 (.mkslice 7 2 16 (.agg [(.int .i64 0), (.int .i64 0)]) (.t 6) (.t 6)),
  oo 3 (.mv (.t 7))])
 (.seq (.seq (rg [oo 4 (.mv (ci 0))])
 (.block 0 (.loop ⟨[0, 4], [(3, 2, false)], []⟩ f56_b0)))
 f56_r0)))
noncomputable def f56_l0 (E : Env) (x0 : U) (x4 : U) (c3 : List U) : Option U := loopK (roundOf E ⟨[0, 4], [(3, 2, false)], []⟩ f56_b0 (blockK 0 (seqK (fun s => exec E f56_r0 s (finishF [(2, none)])) (finishF [(2, none)])))) ([.val x0, .val x4], [.vir (.asl 2 c3)])
theorem Qk1 (E : Env) (x0 : U) (x4 : U) (c3 : List U) : f56_l0 E x0 x4 c3 =
 (U.lenOf false x0).bind fun n2 => (U.bin .lss x4 (.int .i64 (n2 : Int))).bind fun t3 => U.asBool t3
 (U.asInt x4 fun n4 => U.elemAt 2 x0 n4 fun e5 => U.asVar true 2 e5 fun e6 => (E 29 [e6]).bind fun t7 => U.asInt x4 fun n8 => if 2 = 2 ∧ 0 ≤ n8 ∧ n8 < ((c3).length : Int) then if storable (.val t7) = true ∧ t7.size = 2 then (c3[(n8 : Int).toNat]?).bind fun e9 => if e9.size = 2 then (U.bin .add x4 (.int .i64 1)).bind fun t10 => f56_l0 E x0 t10 (c3.set (n8 : Int).toNat t7) else none else none else none)
 (if U.flat.flats c3 = true then some (.sl 2 c3) else none) := (Qf E _ _ _ _).trans (by kernel_rfl)
structure G_f56 (E : Env) : Prop where
  is : Is E 100028 1 f56_ac [(2, none)]
  c_f54 : G_f54 E
theorem f56_E {E : Env} (h : G_f56 E) (a0 : U) : E 100028 [a0] =
 (U.lenOf false a0).bind fun n1 => if 0 ≤ (n1 : Int) ∧ (n1 : Int) ≤ (n1 : Int) ∧ (n1 : Int) * 16 ≤ 140737488355328 ∧ ((.agg [(.int .i64 0), (.int .i64 0)]) : U).size = 2 then f56_l0 E a0 (.int .i64 0) (List.replicate ((n1 : Int) : Int).toNat (.agg [(.int .i64 0), (.int .i64 0)])) else none := (h.is _ rfl).trans ((Qt rfl).trans (by kernel_rfl))
def f73_b0 : AC :=
 (.seq (.seq (rg [oo 8 (.mv (.t 4)),
  oo 9 (.mv (.t 0)),
  oo 10 (.len false (.t 9)),
  oo 11 (.bin .lss (.t 8) (.t 10))])
 (.cond (.t 11) .skip (.exit 0)))
 (.seq (.block 1 (rg [oo 14 (.mv (.t 3)),
  oo 15 (.mv (.t 4)),
  oo 16 (.mv (.t 0)),
  oo 17 (.mv (.t 4)),
  oo 18 (.iaddr 2 (.t 16) (.t 17)),
  oo 19 (.load true 2 (.t 18)),
  oo 20 (.call false 30 [(.t 19)]),
  oo 21 (.iaddr 2 (.t 14) (.t 15)),
  ⟨none, .store 2 (.t 21) (.t 20), none⟩]))
 (rg [oo 12 (.mv (.t 4)),
  oo 13 (.bin .add (.t 12) (ci 1)),
  oo 4 (.mv (.t 13))])))
def f73_r0 : AC :=
 (.seq (rg [oo 22 (.mv (.t 3)),
  oo 2 (.mv (.t 22))])
 .ret)
def f73_ac : AC :=
 (.seq (rg [oo 2 (.mv (.c (.nsl 2)))])
 (.seq (rg [oo 5 (.mv (.t 0)),
  oo 6 (.len false (.t 5)),
  oo 7 (.mkslice 7 2 16 (.agg [(.int .i64 0), (.int .i64 0)]) (.t 6) (.t 6)),
  oo 3 (.mv (.t 7))])
 (.seq (.seq (rg [oo 4 (.mv (ci 0))])
 (.block 0 (.loop ⟨[0, 4], [(3, 2, false)], []⟩ f73_b0)))
 f73_r0)))
noncomputable def f73_l0 (E : Env) (x0 : U) (x4 : U) (c3 : List U) : Option U := loopK (roundOf E ⟨[0, 4], [(3, 2, false)], []⟩ f73_b0 (blockK 0 (seqK (fun s => exec E f73_r0 s (finishF [(2, none)])) (finishF [(2, none)])))) ([.val x0, .val x4], [.vir (.asl 2 c3)])
theorem Qlp (E : Env) (x0 : U) (x4 : U) (c3 : List U) : f73_l0 E x0 x4 c3 =
 (U.lenOf false x0).bind fun n2 => (U.bin .lss x4 (.int .i64 (n2 : Int))).bind fun t3 => U.asBool t3
 (U.asInt x4 fun n4 => U.elemAt 2 x0 n4 fun e5 => U.asVar true 2 e5 fun e6 => (E 30 [e6]).bind fun t7 => U.asInt x4 fun n8 => if 2 = 2 ∧ 0 ≤ n8 ∧ n8 < ((c3).length : Int) then if storable (.val t7) = true ∧ t7.size = 2 then (c3[(n8 : Int).toNat]?).bind fun e9 => if e9.size = 2 then (U.bin .add x4 (.int .i64 1)).bind fun t10 => f73_l0 E x0 t10 (c3.set (n8 : Int).toNat t7) else none else none else none)
 (if U.flat.flats c3 = true then some (.sl 2 c3) else none) := (Qf E _ _ _ _).trans (by kernel_rfl)
structure G_f73 (E : Env) : Prop where
  is : Is E 100027 1 f73_ac [(2, none)]
  c_f71 : G_f71 E
theorem f73_E {E : Env} (h : G_f73 E) (a0 : U) : E 100027 [a0] =
 (U.lenOf false a0).bind fun n1 => if 0 ≤ (n1 : Int) ∧ (n1 : Int) ≤ (n1 : Int) ∧ (n1 : Int) * 16 ≤ 140737488355328 ∧ ((.agg [(.int .i64 0), (.int .i64 0)]) : U).size = 2 then f73_l0 E a0 (.int .i64 0) (List.replicate ((n1 : Int) : Int).toNat (.agg [(.int .i64 0), (.int .i64 0)])) else none := (h.is _ rfl).trans ((Qt rfl).trans (by kernel_rfl))
def f62_ac : AC :=
 (.seq (rg [oo 1 (.box false 1 (.t 0)),
  oo 2 (.alloc 2 (.agg [(.int .i64 0), (.int .i64 0), (.int .i64 0), (.int .i64 0), (.int .i64 0), (.int .i64 0), (.int .i64 0), (.nsl 2), (.nsl 2)]))])
 (.seq (rg [oo 3 (.alloc 3 (.agg [(.int .i64 0), (.int .i64 0), (.int .i64 0), (.int .i64 0), (.int .i64 0), (.int .i64 0), (.int .i64 0), (.nsl 2), (.nsl 2)]))])
 (.seq (rg [oo 4 (.faddr 0 0 (.t 1)),
  oo 5 (.load false 1 (.t 4)),
  oo 6 (.faddr 0 0 (.t 3)),
  ⟨none, .store 1 (.t 6) (.t 5), none⟩])
 (.seq (rg [oo 7 (.faddr 1 1 (.t 1)),
  oo 8 (.load false 1 (.t 7)),
  oo 9 (.faddr 1 1 (.t 3)),
  ⟨none, .store 1 (.t 9) (.t 8), none⟩])
 (.seq (rg [oo 10 (.faddr 2 2 (.t 1)),
  oo 11 (.load false 1 (.t 10)),
  oo 12 (.faddr 2 2 (.t 3)),
  ⟨none, .store 1 (.t 12) (.t 11), none⟩])
 (.seq (rg [oo 13 (.faddr 3 3 (.t 1)),
  oo 14 (.load false 1 (.t 13)),
  oo 15 (.faddr 3 3 (.t 3)),
  ⟨none, .store 1 (.t 15) (.t 14), none⟩])
 (.seq (rg [oo 16 (.faddr 4 4 (.t 1)),
  oo 17 (.load false 1 (.t 16)),
  oo 18 (.faddr 4 4 (.t 3)),
  ⟨none, .store 1 (.t 18) (.t 17), none⟩])
 (.seq (rg [oo 19 (.faddr 5 5 (.t 1)),
  oo 20 (.load false 1 (.t 19)),
  oo 21 (.faddr 5 5 (.t 3)),
  ⟨none, .store 1 (.t 21) (.t 20), none⟩])
 (.seq (rg [oo 22 (.faddr 6 6 (.t 1)),
  oo 23 (.load false 1 (.t 22)),
  oo 24 (.faddr 6 6 (.t 3)),
  ⟨none, .store 1 (.t 24) (.t 23), none⟩])
 (.seq (rg [oo 25 (.faddr 7 7 (.t 1)),
  oo 26 (.load false 1 (.t 25)),
  oo 27 (.callF 27 false [(.sl 2)] 28 [(.t 26)]),
  oo 28 (.faddr 7 7 (.t 3)),
  ⟨none, .storeM 3000 1 (.t 28) (.t 27), none⟩])
 (.seq (rg [oo 29 (.faddr 8 8 (.t 1)),
  oo 30 (.load false 1 (.t 29)),
  oo 31 (.callF 31 false [(.sl 2)] 27 [(.t 30)]),
  oo 32 (.faddr 8 8 (.t 3)),
  ⟨none, .storeM 3002 1 (.t 32) (.t 31), none⟩])
 (.seq (rg [oo 33 (.loadO (.agg [.int, .int, .int, .int, .int, .int, .int, (.sl 2), (.sl 2)]) (.t 3)),
  ⟨none, .storeM 3001 9 (.t 2) (.t 33), none⟩])
 .ret))))))))))))
structure G_f62 (E : Env) : Prop where
  is : Is E 100145 1 f62_ac [(2, some (true, 9))]
  c_f56 : G_f56 E
  c_f73 : G_f73 E
theorem f62_E {E : Env} (h : G_f62 E) (a0 : U) : E 100145 [a0] =
 U.noTup a0 fun x1 => U.asAgg x1 fun us2 => if 0 = sizes (us2.take 0) then (us2[0]?).bind fun e3 => U.asVar false 1 e3 fun e4 => if storable (.val e4) = true ∧ e4.size = 1 then U.asAgg x1 fun us5 => if 1 = sizes (us5.take 1) then (us5[1]?).bind fun e6 => U.asVar false 1 e6 fun e7 => if storable (.val e7) = true ∧ e7.size = 1 then if 1 = sizes [e4] then U.asAgg x1 fun us8 => if 2 = sizes (us8.take 2) then (us8[2]?).bind fun e9 => U.asVar false 1 e9 fun e10 => if storable (.val e10) = true ∧ e10.size = 1 then if 2 = sizes [e4, e7] then U.asAgg x1 fun us11 => if 3 = sizes (us11.take 3) then (us11[3]?).bind fun e12 => U.asVar false 1 e12 fun e13 => if storable (.val e13) = true ∧ e13.size = 1 then if 3 = sizes [e4, e7, e10] then U.asAgg x1 fun us14 => if 4 = sizes (us14.take 4) then (us14[4]?).bind fun e15 => U.asVar false 1 e15 fun e16 => if storable (.val e16) = true ∧ e16.size = 1 then if 4 = sizes [e4, e7, e10, e13] then U.asAgg x1 fun us17 => if 5 = sizes (us17.take 5) then (us17[5]?).bind fun e18 => U.asVar false 1 e18 fun e19 => if storable (.val e19) = true ∧ e19.size = 1 then if 5 = sizes [e4, e7, e10, e13, e16] then U.asAgg x1 fun us20 => if 6 = sizes (us20.take 6) then (us20[6]?).bind fun e21 => U.asVar false 1 e21 fun e22 => if storable (.val e22) = true ∧ e22.size = 1 then if 6 = sizes [e4, e7, e10, e13, e16, e19] then U.asAgg x1 fun us23 => if 7 = sizes (us23.take 7) then (us23[7]?).bind fun e24 => U.asVar false 1 e24 fun e25 => (E 100028 [e25]).bind fun t26 => U.noTup t26 fun x27 => U.asSlK 2 x27 fun us28 => if 7 = sizes [e4, e7, e10, e13, e16, e19, e22] then if 7 = sizes [e4, e7, e10, e13, e16, e19, e22] then if 7 = dsizes [.val e4, .val e7, .val e10, .val e13, .val e16, .val e19, .val e22] then U.asAgg x1 fun us29 => if 8 = sizes (us29.take 8) then (us29[8]?).bind fun e30 => U.asVar false 1 e30 fun e31 => (E 100027 [e31]).bind fun t32 => U.noTup t32 fun x33 => U.asSlK 2 x33 fun us34 => if 8 = dsizes [.val e4, .val e7, .val e10, .val e13, .val e16, .val e19, .val e22, .own (.sl 2 us28)] then if 8 = dsizes [.val e4, .val e7, .val e10, .val e13, .val e16, .val e19, .val e22, .own (.sl 2 us28)] then if 8 = dsizes [.val e4, .val e7, .val e10, .val e13, .val e16, .val e19, .val e22, .own (.sl 2 us28)] then U.asInt e4 fun n35 => U.asInt e7 fun n36 => U.asInt e10 fun n37 => U.asInt e13 fun n38 => U.asInt e16 fun n39 => U.asInt e19 fun n40 => U.asInt e22 fun n41 => if 7 = dsizes [.val e4, .val e7, .val e10, .val e13, .val e16, .val e19, .val e22] then if 7 = dsizes [.val e4, .val e7, .val e10, .val e13, .val e16, .val e19, .val e22] then if 8 = dsizes [.val e4, .val e7, .val e10, .val e13, .val e16, .val e19, .val e22, .junk 1] then if 8 = dsizes [.val e4, .val e7, .val e10, .val e13, .val e16, .val e19, .val e22, .junk 1] then some (.agg [(.int .i64 n35), (.int .i64 n36), (.int .i64 n37), (.int .i64 n38), (.int .i64 n39), (.int .i64 n40), (.int .i64 n41), (.sl 2 us28), (.sl 2 us34)]) else none else none else none else none else none else none else none else none else none else none else none else none else none else none else none else none else none else none else none else none else none else none else none else none else none else none else none else none else none else none else none else none := (h.is _ rfl).trans ((Qt rfl).trans (by kernel_rfl))
def f61_b0 : AC :=
 (.seq (.seq (rg [oo 8 (.mv (.t 4)),
  oo 9 (.mv (.t 0)),
  oo 10 (.len false (.t 9)),
  oo 11 (.bin .lss (.t 8) (.t 10))])
 (.cond (.t 11) .skip (.exit 0)))
 (.seq (.block 1 (rg [oo 14 (.mv (.t 3)),
  oo 15 (.mv (.t 4)),
  oo 16 (.mv (.t 0)),
  oo 17 (.mv (.t 4)),
  oo 18 (.iaddr 9 (.t 16) (.t 17)),
  oo 19 (.load true 9 (.t 18)),
  oo 20 (.callF 20 false [(.agg [.int, .int, .int, .int, .int, .int, .int, (.sl 2), (.sl 2)])] 145 [(.t 19)]),
  oo 21 (.iaddr 9 (.t 14) (.t 15)),
  ⟨none, .storeE 9 (.t 21) (.t 20), none⟩]))
 (rg [oo 12 (.mv (.t 4)),
  oo 13 (.bin .add (.t 12) (ci 1)),
  oo 4 (.mv (.t 13))])))
def f61_r0 : AC :=
 (.seq (rg [oo 22 (.mv (.t 3)),
  oo 2 (.mv (.t 22))])
 .ret)
def f61_ac : AC :=
 (.seq (rg [oo 2 (.mv (.c (.nsl 9)))])
 (.seq (rg [oo 5 (.mv (.t 0)),
  oo 6 (.len false (.t 5)),
  oo 7 (.mkslice 7 9 104 (.agg [(.int .i64 0), (.int .i64 0), (.int .i64 0), (.int .i64 0), (.int .i64 0), (.int .i64 0), (.int .i64 0), (.nsl 2), (.nsl 2)]) (.t 6) (.t 6)),
  oo 3 (.mv (.t 7))])
 (.seq (.seq (rg [oo 4 (.mv (ci 0))])
 (.block 0 (.loop ⟨[0, 4], [(3, 9, true)], []⟩ f61_b0)))
 f61_r0)))
noncomputable def f61_l0 (E : Env) (x0 : U) (x4 : U) (c3 : List U) : Option U := loopK (roundOf E ⟨[0, 4], [(3, 9, true)], []⟩ f61_b0 (blockK 0 (seqK (fun s => exec E f61_r0 s (finishF [(2, none)])) (finishF [(2, none)])))) ([.val x0, .val x4], [.vir (.own (.sl 9 c3))])
theorem Qk5 (E : Env) (x0 : U) (x4 : U) (c3 : List U) : f61_l0 E x0 x4 c3 =
 (U.lenOf false x0).bind fun n2 => (U.bin .lss x4 (.int .i64 (n2 : Int))).bind fun t3 => U.asBool t3
 (U.asInt x4 fun n4 => U.elemAt 9 x0 n4 fun e5 => U.asVar true 9 e5 fun e6 => (E 100145 [e6]).bind fun t7 => U.noTup t7 fun x8 => U.asAgg x8 fun us9 => (match us9 with
 | u10 :: us11 => (U.asInt u10 fun n12 => (match us11 with
 | u13 :: us14 => (U.asInt u13 fun n15 => (match us14 with
 | u16 :: us17 => (U.asInt u16 fun n18 => (match us17 with
 | u19 :: us20 => (U.asInt u19 fun n21 => (match us20 with
 | u22 :: us23 => (U.asInt u22 fun n24 => (match us23 with
 | u25 :: us26 => (U.asInt u25 fun n27 => (match us26 with
 | u28 :: us29 => (U.asInt u28 fun n30 => (match us29 with
 | u31 :: us32 => (U.asSlK 2 u31 fun us33 => (match us32 with
 | u34 :: us35 => (U.asSlK 2 u34 fun us36 => (match us35 with
 | [] => (U.asInt x4 fun n37 => if 9 = 9 ∧ 0 ≤ n37 ∧ n37 < (c3.length : Int) then (c3[(n37 : Int).toNat]?).bind fun e38 => if e38.size = 9 then (U.bin .add x4 (.int .i64 1)).bind fun t39 => f61_l0 E x0 t39 (c3.set (n37 : Int).toNat (.agg [(.int .i64 n12), (.int .i64 n15), (.int .i64 n18), (.int .i64 n21), (.int .i64 n24), (.int .i64 n27), (.int .i64 n30), (.sl 2 us33), (.sl 2 us36)])) else none else none)
 | _ => none))
 | [] => none))
 | [] => none))
 | [] => none))
 | [] => none))
 | [] => none))
 | [] => none))
 | [] => none))
 | [] => none))
 | [] => none))
 (some (.sl 9 c3)) := (Qf E _ _ _ _).trans (by kernel_rfl)
structure G_f61 (E : Env) : Prop where
  is : Is E 100144 1 f61_ac [(2, none)]
  c_f62 : G_f62 E
theorem f61_E {E : Env} (h : G_f61 E) (a0 : U) : E 100144 [a0] =
 (U.lenOf false a0).bind fun n1 => if 0 ≤ (n1 : Int) ∧ (n1 : Int) ≤ (n1 : Int) ∧ (n1 : Int) * 104 ≤ 140737488355328 ∧ ((.agg [(.int .i64 0), (.int .i64 0), (.int .i64 0), (.int .i64 0), (.int .i64 0), (.int .i64 0), (.int .i64 0), (.nsl 2), (.nsl 2)]) : U).size = 9 then if U.flat.flats (List.replicate ((n1 : Int) : Int).toNat (.agg [(.int .i64 0), (.int .i64 0), (.int .i64 0), (.int .i64 0), (.int .i64 0), (.int .i64 0), (.int .i64 0), (.nsl 2), (.nsl 2)])) = true then f61_l0 E a0 (.int .i64 0) (List.replicate ((n1 : Int) : Int).toNat (.agg [(.int .i64 0), (.int .i64 0), (.int .i64 0), (.int .i64 0), (.int .i64 0), (.int .i64 0), (.int .i64 0), (.nsl 2), (.nsl 2)])) else none else none := (h.is _ rfl).trans ((Qt rfl).trans (by kernel_rfl))
def f53_b0 : AC :=
 (.seq (.seq (rg [oo 8 (.mv (.t 4)),
  oo 9 (.mv (.t 0)),
  oo 10 (.len false (.t 9)),
  oo 11 (.bin .lss (.t 8) (.t 10))])
 (.cond (.t 11) .skip (.exit 0)))
 (.seq (.block 1 (rg [oo 14 (.mv (.t 3)),
  oo 15 (.mv (.t 4)),
  oo 16 (.mv (.t 0)),
  oo 17 (.mv (.t 4)),
  oo 18 (.iaddr 2 (.t 16) (.t 17)),
  oo 19 (.load true 2 (.t 18)),
  oo 20 (.call false 146 [(.t 19)]),
  oo 21 (.iaddr 2 (.t 14) (.t 15)),
  ⟨none, .store 2 (.t 21) (.t 20), none⟩]))
 (rg [oo 12 (.mv (.t 4)),
  oo 13 (.bin .add (.t 12) (ci 1)),
  oo 4 (.mv (.t 13))])))
def f53_r0 : AC :=
 (.seq (rg [oo 22 (.mv (.t 3)),
  oo 2 (.mv (.t 22))])
 .ret)
def f53_ac : AC :=
 (.seq (rg [oo 2 (.mv (.c (.nsl 2)))])
 (.seq (rg [oo 5 (.mv (.t 0)),
  oo 6 (.len false (.t 5)),
  oo 7 (.mkslice 7 2 16 (.agg [(.int .i64 0), (.int .i64 0)]) (.t 6) (.t 6)),
  oo 3 (.mv (.t 7))])
 (.seq (.seq (rg [oo 4 (.mv (ci 0))])
 (.block 0 (.loop ⟨[0, 4], [(3, 2, false)], []⟩ f53_b0)))
 f53_r0)))
noncomputable def f53_l0 (E : Env) (x0 : U) (x4 : U) (c3 : List U) : Option U := loopK (roundOf E ⟨[0, 4], [(3, 2, false)], []⟩ f53_b0 (blockK 0 (seqK (fun s => exec E f53_r0 s (finishF [(2, none)])) (finishF [(2, none)])))) ([.val x0, .val x4], [.vir (.asl 2 c3)])
theorem Qkw (E : Env) (x0 : U) (x4 : U) (c3 : List U) : f53_l0 E x0 x4 c3 =
 (U.lenOf false x0).bind fun n2 => (U.bin .lss x4 (.int .i64 (n2 : Int))).bind fun t3 => U.asBool t3
 (U.asInt x4 fun n4 => U.elemAt 2 x0 n4 fun e5 => U.asVar true 2 e5 fun e6 => (E 146 [e6]).bind fun t7 => U.asInt x4 fun n8 => if 2 = 2 ∧ 0 ≤ n8 ∧ n8 < ((c3).length : Int) then if storable (.val t7) = true ∧ t7.size = 2 then (c3[(n8 : Int).toNat]?).bind fun e9 => if e9.size = 2 then (U.bin .add x4 (.int .i64 1)).bind fun t10 => f53_l0 E x0 t10 (c3.set (n8 : Int).toNat t7) else none else none else none)
 (if U.flat.flats c3 = true then some (.sl 2 c3) else none) := (Qf E _ _ _ _).trans (by kernel_rfl)
structure G_f53 (E : Env) : Prop where
  is : Is E 100143 1 f53_ac [(2, none)]
  c_f51 : G_f51 E
theorem f53_E {E : Env} (h : G_f53 E) (a0 : U) : E 100143 [a0] =
 (U.lenOf false a0).bind fun n1 => if 0 ≤ (n1 : Int) ∧ (n1 : Int) ≤ (n1 : Int) ∧ (n1 : Int) * 16 ≤ 140737488355328 ∧ ((.agg [(.int .i64 0), (.int .i64 0)]) : U).size = 2 then f53_l0 E a0 (.int .i64 0) (List.replicate ((n1 : Int) : Int).toNat (.agg [(.int .i64 0), (.int .i64 0)])) else none := (h.is _ rfl).trans ((Qt rfl).trans (by kernel_rfl))
def f70_b0 : AC :=
 (.seq (.seq (rg [oo 8 (.mv (.t 4)),
  oo 9 (.mv (.t 0)),
  oo 10 (.len false (.t 9)),
  oo 11 (.bin .lss (.t 8) (.t 10))])
 (.cond (.t 11) .skip (.exit 0)))
 (.seq (.block 1 (rg [oo 14 (.mv (.t 3)),
  oo 15 (.mv (.t 4)),
  oo 16 (.mv (.t 0)),
  oo 17 (.mv (.t 4)),
  oo 18 (.iaddr 2 (.t 16) (.t 17)),
  oo 19 (.load true 2 (.t 18)),
  oo 20 (.call false 147 [(.t 19)]),
  oo 21 (.iaddr 2 (.t 14) (.t 15)),
  ⟨none, .store 2 (.t 21) (.t 20), none⟩]))
 (rg [oo 12 (.mv (.t 4)),
  oo 13 (.bin .add (.t 12) (ci 1)),
  oo 4 (.mv (.t 13))])))
def f70_r0 : AC :=
 (.seq (rg [oo 22 (.mv (.t 3)),
  oo 2 (.mv (.t 22))])
 .ret)
def f70_ac : AC :=
 (.seq (rg [oo 2 (.mv (.c (.nsl 2)))])
 (.seq (rg [oo 5 (.mv (.t 0)),
  oo 6 (.len false (.t 5)),
  oo 7 (.mkslice 7 2 16 (.agg [(.int .i64 0), (.int .i64 0)]) (.t 6) (.t 6)),
  oo 3 (.mv (.t 7))])
 (.seq (.seq (rg [oo 4 (.mv (ci 0))])
 (.block 0 (.loop ⟨[0, 4], [(3, 2, false)], []⟩ f70_b0)))
 f70_r0)))
noncomputable def f70_l0 (E : Env) (x0 : U) (x4 : U) (c3 : List U) : Option U := loopK (roundOf E ⟨[0, 4], [(3, 2, false)], []⟩ f70_b0 (blockK 0 (seqK (fun s => exec E f70_r0 s (finishF [(2, none)])) (finishF [(2, none)])))) ([.val x0, .val x4], [.vir (.asl 2 c3)])
theorem Qlk (E : Env) (x0 : U) (x4 : U) (c3 : List U) : f70_l0 E x0 x4 c3 =
 (U.lenOf false x0).bind fun n2 => (U.bin .lss x4 (.int .i64 (n2 : Int))).bind fun t3 => U.asBool t3
 (U.asInt x4 fun n4 => U.elemAt 2 x0 n4 fun e5 => U.asVar true 2 e5 fun e6 => (E 147 [e6]).bind fun t7 => U.asInt x4 fun n8 => if 2 = 2 ∧ 0 ≤ n8 ∧ n8 < ((c3).length : Int) then if storable (.val t7) = true ∧ t7.size = 2 then (c3[(n8 : Int).toNat]?).bind fun e9 => if e9.size = 2 then (U.bin .add x4 (.int .i64 1)).bind fun t10 => f70_l0 E x0 t10 (c3.set (n8 : Int).toNat t7) else none else none else none)
 (if U.flat.flats c3 = true then some (.sl 2 c3) else none) := (Qf E _ _ _ _).trans (by kernel_rfl)
structure G_f70 (E : Env) : Prop where
  is : Is E 100142 1 f70_ac [(2, none)]
  c_f68 : G_f68 E
theorem f70_E {E : Env} (h : G_f70 E) (a0 : U) : E 100142 [a0] =
 (U.lenOf false a0).bind fun n1 => if 0 ≤ (n1 : Int) ∧ (n1 : Int) ≤ (n1 : Int) ∧ (n1 : Int) * 16 ≤ 140737488355328 ∧ ((.agg [(.int .i64 0), (.int .i64 0)]) : U).size = 2 then f70_l0 E a0 (.int .i64 0) (List.replicate ((n1 : Int) : Int).toNat (.agg [(.int .i64 0), (.int .i64 0)])) else none := (h.is _ rfl).trans ((Qt rfl).trans (by kernel_rfl))
def f50_ac : AC :=
 (.seq (rg [oo 1 (.box false 1 (.t 0)),
  oo 2 (.alloc 2 (.agg [(.bool false), (.agg [(.nsl 1)]), (.nsl 9), (.nsl 2), (.nsl 2), (.int .i64 0)]))])
 (.seq (rg [oo 3 (.alloc 3 (.agg [(.bool false), (.agg [(.nsl 1)]), (.nsl 9), (.nsl 2), (.nsl 2), (.int .i64 0)]))])
 (.seq (rg [oo 4 (.faddr 0 0 (.t 1)),
  oo 5 (.load false 1 (.t 4)),
  oo 6 (.faddr 0 0 (.t 3)),
  ⟨none, .store 1 (.t 6) (.t 5), none⟩])
 (.seq (rg [oo 7 (.faddr 1 1 (.t 1)),
  oo 8 (.load true 1 (.t 7)),
  oo 9 (.callF 9 false [(.agg [(.sl 1)])] 93 [(.t 8)]),
  oo 10 (.faddr 1 1 (.t 3)),
  ⟨none, .storeM 3000 1 (.t 10) (.t 9), none⟩])
 (.seq (rg [oo 11 (.faddr 2 2 (.t 1)),
  oo 12 (.load false 1 (.t 11)),
  oo 13 (.callF 13 false [(.sl 9)] 144 [(.t 12)]),
  oo 14 (.faddr 2 2 (.t 3)),
  ⟨none, .storeM 3002 1 (.t 14) (.t 13), none⟩])
 (.seq (rg [oo 15 (.faddr 3 3 (.t 1)),
  oo 16 (.load false 1 (.t 15)),
  oo 17 (.callF 17 false [(.sl 2)] 143 [(.t 16)]),
  oo 18 (.faddr 3 3 (.t 3)),
  ⟨none, .storeM 3003 1 (.t 18) (.t 17), none⟩])
 (.seq (rg [oo 19 (.faddr 4 4 (.t 1)),
  oo 20 (.load false 1 (.t 19)),
  oo 21 (.callF 21 false [(.sl 2)] 142 [(.t 20)]),
  oo 22 (.faddr 4 4 (.t 3)),
  ⟨none, .storeM 3004 1 (.t 22) (.t 21), none⟩])
 (.seq (rg [oo 23 (.faddr 5 5 (.t 1)),
  oo 24 (.load false 1 (.t 23)),
  oo 25 (.faddr 5 5 (.t 3)),
  ⟨none, .store 1 (.t 25) (.t 24), none⟩])
 (.seq (rg [oo 26 (.loadO (.agg [.bool, (.agg [(.sl 1)]), (.sl 9), (.sl 2), (.sl 2), .int]) (.t 3)),
  ⟨none, .storeM 3001 6 (.t 2) (.t 26), none⟩])
 .ret)))))))))
structure G_f50 (E : Env) : Prop where
  is : Is E 100124 1 f50_ac [(2, some (true, 6))]
  c_f58 : G_f58 E
  c_f61 : G_f61 E
  c_f53 : G_f53 E
  c_f70 : G_f70 E
theorem f50_E {E : Env} (h : G_f50 E) (a0 : U) : E 100124 [a0] =
 U.noTup a0 fun x1 => U.asAgg x1 fun us2 => if 0 = sizes (us2.take 0) then (us2[0]?).bind fun e3 => U.asVar false 1 e3 fun e4 => if storable (.val e4) = true ∧ e4.size = 1 then U.asAgg x1 fun us5 => if 1 = sizes (us5.take 1) then (us5[1]?).bind fun e6 => U.asVar true 1 e6 fun e7 => (E 100093 [e7]).bind fun t8 => U.noTup t8 fun x9 => U.asAgg x9 fun us10 => (match us10 with
 | u11 :: us12 => (U.asSlK 1 u11 fun us13 => (match us12 with
 | [] => (if 1 = sizes [e4] then if 1 = sizes [e4] then if 1 = dsizes [.val e4] then U.asAgg x1 fun us14 => if 2 = sizes (us14.take 2) then (us14[2]?).bind fun e15 => U.asVar false 1 e15 fun e16 => (E 100144 [e16]).bind fun t17 => U.noTup t17 fun x18 => U.asSlK 9 x18 fun us19 => if 2 = dsizes [.val e4, .agg [.own (.sl 1 us13)]] then if 2 = dsizes [.val e4, .agg [.own (.sl 1 us13)]] then if 2 = dsizes [.val e4, .agg [.own (.sl 1 us13)]] then U.asAgg x1 fun us20 => if 3 = sizes (us20.take 3) then (us20[3]?).bind fun e21 => U.asVar false 1 e21 fun e22 => (E 100143 [e22]).bind fun t23 => U.noTup t23 fun x24 => U.asSlK 2 x24 fun us25 => if 3 = dsizes [.val e4, .agg [.own (.sl 1 us13)], .own (.sl 9 us19)] then if 3 = dsizes [.val e4, .agg [.own (.sl 1 us13)], .own (.sl 9 us19)] then if 3 = dsizes [.val e4, .agg [.own (.sl 1 us13)], .own (.sl 9 us19)] then U.asAgg x1 fun us26 => if 4 = sizes (us26.take 4) then (us26[4]?).bind fun e27 => U.asVar false 1 e27 fun e28 => (E 100142 [e28]).bind fun t29 => U.noTup t29 fun x30 => U.asSlK 2 x30 fun us31 => if 4 = dsizes [.val e4, .agg [.own (.sl 1 us13)], .own (.sl 9 us19), .own (.sl 2 us25)] then if 4 = dsizes [.val e4, .agg [.own (.sl 1 us13)], .own (.sl 9 us19), .own (.sl 2 us25)] then if 4 = dsizes [.val e4, .agg [.own (.sl 1 us13)], .own (.sl 9 us19), .own (.sl 2 us25)] then U.asAgg x1 fun us32 => if 5 = sizes (us32.take 5) then (us32[5]?).bind fun e33 => U.asVar false 1 e33 fun e34 => if storable (.val e34) = true ∧ e34.size = 1 then if 5 = dsizes [.val e4, .agg [.own (.sl 1 us13)], .own (.sl 9 us19), .own (.sl 2 us25), .own (.sl 2 us31)] then U.asB e4 fun b35 => U.asInt e34 fun n36 => if 1 = dsizes [.val e4] then if 1 = dsizes [.val e4] then if 2 = dsizes [.val e4, .agg [.junk 1]] then if 2 = dsizes [.val e4, .agg [.junk 1]] then if 3 = dsizes [.val e4, .agg [.junk 1], .junk 1] then if 3 = dsizes [.val e4, .agg [.junk 1], .junk 1] then if 4 = dsizes [.val e4, .agg [.junk 1], .junk 1, .junk 1] then if 4 = dsizes [.val e4, .agg [.junk 1], .junk 1, .junk 1] then some (.agg [(.bool b35), (.agg [(.sl 1 us13)]), (.sl 9 us19), (.sl 2 us25), (.sl 2 us31), (.int .i64 n36)]) else none else none else none else none else none else none else none else none else none else none else none else none else none else none else none else none else none else none else none else none else none else none else none else none else none else none)
 | _ => none))
 | [] => none) else none else none else none := (h.is _ rfl).trans ((Qt rfl).trans (by kernel_rfl))
def f3_ac : AC :=
 (.seq (rg [oo 1 (.box false 1 (.t 0)),
  oo 2 (.alloc 2 (.agg [(.bool false), (.agg [(.nsl 1)]), (.nsl 9), (.nsl 2), (.nsl 2), (.int .i64 0)]))])
 (.seq (rg [oo 4 (.load true 6 (.t 1)),
  oo 5 (.callF 5 false [(.agg [.bool, (.agg [(.sl 1)]), (.sl 9), (.sl 2), (.sl 2), .int])] 347 [(.t 4)]),
  oo 3 (.alloc 3 (.agg [(.bool false), (.agg [(.nsl 1)]), (.nsl 9), (.nsl 2), (.nsl 2), (.int .i64 0)])),
  ⟨none, .storeM 3000 6 (.t 3) (.t 5), none⟩])
 (.seq (rg [oo 6 (.faddr 2 2 (.t 3)),
  oo 7 (.loadO (.sl 9) (.t 6)),
  oo 8 (.callC 8 9 346 (.t 7) [(.c (.fn 345 []))]),
  oo 9 (.faddr 2 2 (.t 3)),
  ⟨none, .storeM 3001 1 (.t 9) (.t 8), none⟩])
 (.seq (rg [oo 10 (.loadO (.agg [.bool, (.agg [(.sl 1)]), (.sl 9), (.sl 2), (.sl 2), .int]) (.t 3)),
  ⟨none, .storeM 3002 6 (.t 2) (.t 10), none⟩])
 .ret))))
structure G_f3 (E : Env) : Prop where
  is : Is E 100342 1 f3_ac [(2, some (true, 6))]
  c_f2 : G_f2 E
  c_f0 : G_f0 E
  c_f79 : IsDel E 346 345 9 1048576 isTx9 isAb9
theorem f3_E {E : Env} (h : G_f3 E) (a0 : U) : E 100342 [a0] =
 U.noTup a0 fun x1 => U.asVar true 6 x1 fun e2 => (E 100347 [e2]).bind fun t3 => U.noTup t3 fun x4 => U.asAgg x4 fun us5 => (match us5 with
 | u6 :: us7 => (U.asB u6 fun b8 => (match us7 with
 | u9 :: us10 => (U.asAgg u9 fun us11 => (match us11 with
 | u12 :: us13 => (U.asSlK 1 u12 fun us14 => (match us13 with
 | [] => ((match us10 with
 | u15 :: us16 => (U.asSlK 9 u15 fun us17 => (match us16 with
 | u18 :: us19 => (U.asSlK 2 u18 fun us20 => (match us19 with
 | u21 :: us22 => (U.asSlK 2 u21 fun us23 => (match us22 with
 | u24 :: us25 => (U.asInt u24 fun n26 => (match us25 with
 | [] => ((E 300346 (.agg [.tup [.sl 9 us17]] :: [(.fn 345 [])])).bind fun t27 => U.asSlK 9 t27 fun us28 => some (.agg [(.bool b8), (.agg [(.sl 1 us14)]), (.sl 9 us28), (.sl 2 us20), (.sl 2 us23), (.int .i64 n26)]))
 | _ => none))
 | [] => none))
 | [] => none))
 | [] => none))
 | [] => none))
 | _ => none))
 | [] => none))
 | [] => none))
 | [] => none) := (h.is _ rfl).trans ((Qt rfl).trans (by kernel_rfl))
def f33_b0 : AC :=
 (.seq (.seq (rg [oo 6 (.mv (.t 5)),
  oo 7 (.mv (.t 0)),
  oo 8 (.len false (.t 7)),
  oo 9 (.bin .lss (.t 6) (.t 8))])
 (.cond (.t 9) .skip (.exit 0)))
 (.seq (.block 1 (.seq (rg [oo 12 (.mv (.t 0)),
  oo 13 (.mv (.t 5)),
  oo 14 (.mv (.t 1)),
  oo 15 (.iaddr 2 (.t 12) (.t 13)),
  oo 16 (.faddr 0 0 (.t 15)),
  ⟨none, .store 1 (.t 16) (.t 14), none⟩])
 (.seq (rg [oo 17 (.mv (.t 1)),
  oo 18 (.bin .add (.t 17) (ci 1)),
  oo 1 (.mv (.t 18))])
 (.seq (rg [oo 19 (.mv (.t 0)),
  oo 20 (.mv (.t 5)),
  oo 21 (.mv (.t 1)),
  oo 22 (.iaddr 2 (.t 19) (.t 20)),
  oo 23 (.faddr 1 1 (.t 22)),
  ⟨none, .store 1 (.t 23) (.t 21), none⟩])
 (rg [oo 24 (.mv (.t 1)),
  oo 25 (.bin .add (.t 24) (ci 1)),
  oo 1 (.mv (.t 25))])))))
 (rg [oo 10 (.mv (.t 5)),
  oo 11 (.bin .add (.t 10) (ci 1)),
  oo 5 (.mv (.t 11))])))
def f33_r0 : AC :=
 (.seq (rg [oo 26 (.mv (.t 1)),
  oo 4 (.mv (.t 26))])
 .ret)
def f33_ac : AC :=
 (.seq (rg [oo 4 (.mv (ci 0))])
 (.seq (.seq (rg [oo 5 (.mv (ci 0))])
 (.block 0 (.loop ⟨[0, 1, 5], [], [(5000, true)]⟩ f33_b0)))
 f33_r0))
noncomputable def f33_l0 (E : Env) (x1 : U) (x5 : U) (b5000 : List U) : Option U := loopK (roundOf E ⟨[0, 1, 5], [], [(5000, true)]⟩ f33_b0 (blockK 0 (seqK (fun s => exec E f33_r0 s (finishM 2 [(4, none)])) (finishM 2 [(4, none)])))) ([.ref 5000 [] 2 none, .val x1, .val x5], [.vir (.own (.sl 2 b5000))])
theorem Qj9 (E : Env) (x1 : U) (x5 : U) (b5000 : List U) : f33_l0 E x1 x5 b5000 =
 (U.bin .lss x5 (.int .i64 (b5000.length : Int))).bind fun t1 => U.asBool t1
 (U.asInt x5 fun n2 => if 2 = 2 ∧ 0 ≤ n2 ∧ n2 < (b5000.length : Int) then if storable (.val x1) = true ∧ x1.size = 1 then (b5000[(n2 : Int).toNat]?).bind fun e3 => U.asAgg e3 fun us4 => if 0 = sizes (us4.take 0) then (us4[0]?).bind fun e5 => if e5.size = 1 then if (x1 : U).flat = true then (U.bin .add x1 (.int .i64 1)).bind fun t6 => U.asInt x5 fun n7 => if 2 = 2 ∧ 0 ≤ n7 ∧ n7 < (((b5000.set (n2 : Int).toNat (.agg (us4.set 0 x1)))).length : Int) then if storable (.val t6) = true ∧ t6.size = 1 then ((b5000.set (n2 : Int).toNat (.agg (us4.set 0 x1)))[(n7 : Int).toNat]?).bind fun e8 => U.asAgg e8 fun us9 => if 1 = sizes (us9.take 1) then (us9[1]?).bind fun e10 => if e10.size = 1 then if (t6 : U).flat = true then (U.bin .add t6 (.int .i64 1)).bind fun t11 => (U.bin .add x5 (.int .i64 1)).bind fun t12 => f33_l0 E t11 t12 ((b5000.set (n2 : Int).toNat (.agg (us4.set 0 x1))).set (n7 : Int).toNat (.agg (us9.set 1 t6))) else none else none else none else none else none else none else none else none else none else none)
 (if (x1 : U).flat = true then some (.tup [x1, .sl 2 b5000]) else none) := (Qf E _ _ _ _).trans (by kernel_rfl)
structure G_f33 (E : Env) : Prop where
  is : Is E 200095 2 f33_ac [(4, none)]
theorem f33_E {E : Env} (h : G_f33 E) (xs0 : List U) (a1 : U) : E 200095 (.agg [.tup [.sl 2 xs0]] :: [a1]) =
 f33_l0 E a1 (.int .i64 0) xs0 := (h.is _ rfl).trans ((Qcl rfl).trans (by kernel_rfl))
def f38_b0 : AC :=
 (.seq (.seq (rg [oo 6 (.mv (.t 5)),
  oo 7 (.mv (.t 0)),
  oo 8 (.len false (.t 7)),
  oo 9 (.bin .lss (.t 6) (.t 8))])
 (.cond (.t 9) .skip (.exit 0)))
 (.seq (.block 1 (.seq (rg [oo 12 (.mv (.t 0)),
  oo 13 (.mv (.t 5)),
  oo 14 (.mv (.t 1)),
  oo 15 (.iaddr 2 (.t 12) (.t 13)),
  oo 16 (.faddr 0 0 (.t 15)),
  ⟨none, .store 1 (.t 16) (.t 14), none⟩])
 (.seq (rg [oo 17 (.mv (.t 1)),
  oo 18 (.bin .add (.t 17) (ci 1)),
  oo 1 (.mv (.t 18))])
 (.seq (rg [oo 19 (.mv (.t 0)),
  oo 20 (.mv (.t 5)),
  oo 21 (.mv (.t 1)),
  oo 22 (.iaddr 2 (.t 19) (.t 20)),
  oo 23 (.faddr 1 1 (.t 22)),
  ⟨none, .store 1 (.t 23) (.t 21), none⟩])
 (rg [oo 24 (.mv (.t 1)),
  oo 25 (.bin .add (.t 24) (ci 1)),
  oo 1 (.mv (.t 25))])))))
 (rg [oo 10 (.mv (.t 5)),
  oo 11 (.bin .add (.t 10) (ci 1)),
  oo 5 (.mv (.t 11))])))
def f38_r0 : AC :=
 (.seq (rg [oo 26 (.mv (.t 1)),
  oo 4 (.mv (.t 26))])
 .ret)
def f38_ac : AC :=
 (.seq (rg [oo 4 (.mv (ci 0))])
 (.seq (.seq (rg [oo 5 (.mv (ci 0))])
 (.block 0 (.loop ⟨[0, 1, 5], [], [(5000, true)]⟩ f38_b0)))
 f38_r0))
noncomputable def f38_l0 (E : Env) (x1 : U) (x5 : U) (b5000 : List U) : Option U := loopK (roundOf E ⟨[0, 1, 5], [], [(5000, true)]⟩ f38_b0 (blockK 0 (seqK (fun s => exec E f38_r0 s (finishM 2 [(4, none)])) (finishM 2 [(4, none)])))) ([.ref 5000 [] 2 none, .val x1, .val x5], [.vir (.own (.sl 2 b5000))])
theorem Qkj (E : Env) (x1 : U) (x5 : U) (b5000 : List U) : f38_l0 E x1 x5 b5000 =
 (U.bin .lss x5 (.int .i64 (b5000.length : Int))).bind fun t1 => U.asBool t1
 (U.asInt x5 fun n2 => if 2 = 2 ∧ 0 ≤ n2 ∧ n2 < (b5000.length : Int) then if storable (.val x1) = true ∧ x1.size = 1 then (b5000[(n2 : Int).toNat]?).bind fun e3 => U.asAgg e3 fun us4 => if 0 = sizes (us4.take 0) then (us4[0]?).bind fun e5 => if e5.size = 1 then if (x1 : U).flat = true then (U.bin .add x1 (.int .i64 1)).bind fun t6 => U.asInt x5 fun n7 => if 2 = 2 ∧ 0 ≤ n7 ∧ n7 < (((b5000.set (n2 : Int).toNat (.agg (us4.set 0 x1)))).length : Int) then if storable (.val t6) = true ∧ t6.size = 1 then ((b5000.set (n2 : Int).toNat (.agg (us4.set 0 x1)))[(n7 : Int).toNat]?).bind fun e8 => U.asAgg e8 fun us9 => if 1 = sizes (us9.take 1) then (us9[1]?).bind fun e10 => if e10.size = 1 then if (t6 : U).flat = true then (U.bin .add t6 (.int .i64 1)).bind fun t11 => (U.bin .add x5 (.int .i64 1)).bind fun t12 => f38_l0 E t11 t12 ((b5000.set (n2 : Int).toNat (.agg (us4.set 0 x1))).set (n7 : Int).toNat (.agg (us9.set 1 t6))) else none else none else none else none else none else none else none else none else none else none)
 (if (x1 : U).flat = true then some (.tup [x1, .sl 2 b5000]) else none) := (Qf E _ _ _ _).trans (by kernel_rfl)
structure G_f38 (E : Env) : Prop where
  is : Is E 200232 2 f38_ac [(4, none)]
theorem f38_E {E : Env} (h : G_f38 E) (xs0 : List U) (a1 : U) : E 200232 (.agg [.tup [.sl 2 xs0]] :: [a1]) =
 f38_l0 E a1 (.int .i64 0) xs0 := (h.is _ rfl).trans ((Qcl rfl).trans (by kernel_rfl))
def f34_b0 : AC :=
 (.seq (.seq (rg [oo 6 (.mv (.t 5)),
  oo 7 (.mv (.t 0)),
  oo 8 (.len false (.t 7)),
  oo 9 (.bin .lss (.t 6) (.t 8))])
 (.cond (.t 9) .skip (.exit 0)))
 (.seq (.block 1 (.seq (rg [oo 12 (.mv (.t 0)),
  oo 13 (.mv (.t 5)),
  oo 14 (.mv (.t 1)),
  oo 15 (.iaddr 9 (.t 12) (.t 13)),
  oo 16 (.faddr 0 0 (.t 15)),
  ⟨none, .store 1 (.t 16) (.t 14), none⟩])
 (.seq (rg [oo 17 (.mv (.t 1)),
  oo 18 (.bin .add (.t 17) (ci 1)),
  oo 1 (.mv (.t 18))])
 (.seq (rg [oo 19 (.mv (.t 0)),
  oo 20 (.mv (.t 5)),
  oo 21 (.mv (.t 1)),
  oo 22 (.iaddr 9 (.t 19) (.t 20)),
  oo 23 (.faddr 1 1 (.t 22)),
  ⟨none, .store 1 (.t 23) (.t 21), none⟩])
 (.seq (rg [oo 24 (.mv (.t 1)),
  oo 25 (.bin .add (.t 24) (ci 1)),
  oo 1 (.mv (.t 25))])
 (.seq (rg [oo 26 (.mv (.t 0)),
  oo 27 (.mv (.t 5)),
  oo 28 (.mv (.t 1)),
  oo 29 (.iaddr 9 (.t 26) (.t 27)),
  oo 30 (.faddr 2 2 (.t 29)),
  ⟨none, .store 1 (.t 30) (.t 28), none⟩])
 (.seq (rg [oo 31 (.mv (.t 1)),
  oo 32 (.bin .add (.t 31) (ci 1)),
  oo 1 (.mv (.t 32))])
 (.seq (rg [oo 33 (.mv (.t 0)),
  oo 34 (.mv (.t 5)),
  oo 35 (.mv (.t 1)),
  oo 36 (.iaddr 9 (.t 33) (.t 34)),
  oo 37 (.faddr 3 3 (.t 36)),
  ⟨none, .store 1 (.t 37) (.t 35), none⟩])
 (.seq (rg [oo 38 (.mv (.t 1)),
  oo 39 (.bin .add (.t 38) (ci 1)),
  oo 1 (.mv (.t 39))])
 (.seq (rg [oo 40 (.mv (.t 0)),
  oo 41 (.mv (.t 5)),
  oo 42 (.mv (.t 1)),
  oo 43 (.iaddr 9 (.t 40) (.t 41)),
  oo 44 (.faddr 4 4 (.t 43)),
  ⟨none, .store 1 (.t 44) (.t 42), none⟩])
 (.seq (rg [oo 45 (.mv (.t 1)),
  oo 46 (.bin .add (.t 45) (ci 1)),
  oo 1 (.mv (.t 46))])
 (.seq (rg [oo 47 (.mv (.t 0)),
  oo 48 (.mv (.t 5)),
  oo 49 (.mv (.t 1)),
  oo 50 (.iaddr 9 (.t 47) (.t 48)),
  oo 51 (.faddr 5 5 (.t 50)),
  ⟨none, .store 1 (.t 51) (.t 49), none⟩])
 (.seq (rg [oo 52 (.mv (.t 1)),
  oo 53 (.bin .add (.t 52) (ci 1)),
  oo 1 (.mv (.t 53))])
 (.seq (rg [oo 54 (.mv (.t 0)),
  oo 55 (.mv (.t 5)),
  oo 56 (.mv (.t 1)),
  oo 57 (.iaddr 9 (.t 54) (.t 55)),
  oo 58 (.faddr 6 6 (.t 57)),
  ⟨none, .store 1 (.t 58) (.t 56), none⟩])
 (.seq (rg [oo 59 (.mv (.t 1)),
  oo 60 (.bin .add (.t 59) (ci 1)),
  oo 1 (.mv (.t 60))])
 (.seq (rg [oo 61 (.mv (.t 0)),
  oo 62 (.mv (.t 5)),
  oo 63 (.iaddr 9 (.t 61) (.t 62)),
  oo 64 (.faddr 7 7 (.t 63)),
  oo 65 (.loadO (.sl 2) (.t 64)),
  oo 66 (.mv (.t 1)),
  oo 67 (.callM 2 95 (.t 65) [(.t 66)]),
  oo 1 (.mv (.t 67))])
 (rg [oo 68 (.mv (.t 0)),
  oo 69 (.mv (.t 5)),
  oo 70 (.iaddr 9 (.t 68) (.t 69)),
  oo 71 (.faddr 8 8 (.t 70)),
  oo 72 (.loadO (.sl 2) (.t 71)),
  oo 73 (.mv (.t 1)),
  oo 74 (.callM 2 232 (.t 72) [(.t 73)]),
  oo 1 (.mv (.t 74))])))))))))))))))))
 (rg [oo 10 (.mv (.t 5)),
  oo 11 (.bin .add (.t 10) (ci 1)),
  oo 5 (.mv (.t 11))])))
def f34_r0 : AC :=
 (.seq (rg [oo 75 (.mv (.t 1)),
  oo 4 (.mv (.t 75))])
 .ret)
def f34_ac : AC :=
 (.seq (rg [oo 4 (.mv (ci 0))])
 (.seq (.seq (rg [oo 5 (.mv (ci 0))])
 (.block 0 (.loop ⟨[0, 1, 5], [], [(5000, true)]⟩ f34_b0)))
 f34_r0))
noncomputable def f34_l0 (E : Env) (x1 : U) (x5 : U) (b5000 : List U) : Option U := loopK (roundOf E ⟨[0, 1, 5], [], [(5000, true)]⟩ f34_b0 (blockK 0 (seqK (fun s => exec E f34_r0 s (finishM 9 [(4, none)])) (finishM 9 [(4, none)])))) ([.ref 5000 [] 9 none, .val x1, .val x5], [.vir (.own (.sl 9 b5000))])
theorem Qkb (E : Env) (x1 : U) (x5 : U) (b5000 : List U) : f34_l0 E x1 x5 b5000 =
 (U.bin .lss x5 (.int .i64 (b5000.length : Int))).bind fun t1 => U.asBool t1
 (U.asInt x5 fun n2 => if 9 = 9 ∧ 0 ≤ n2 ∧ n2 < (b5000.length : Int) then if storable (.val x1) = true ∧ x1.size = 1 then (b5000[(n2 : Int).toNat]?).bind fun e3 => U.asAgg e3 fun us4 => if 0 = sizes (us4.take 0) then (us4[0]?).bind fun e5 => if e5.size = 1 then if (x1 : U).flat = true then (U.bin .add x1 (.int .i64 1)).bind fun t6 => U.asInt x5 fun n7 => if 9 = 9 ∧ 0 ≤ n7 ∧ n7 < (((b5000.set (n2 : Int).toNat (.agg (us4.set 0 x1)))).length : Int) then if storable (.val t6) = true ∧ t6.size = 1 then ((b5000.set (n2 : Int).toNat (.agg (us4.set 0 x1)))[(n7 : Int).toNat]?).bind fun e8 => U.asAgg e8 fun us9 => if 1 = sizes (us9.take 1) then (us9[1]?).bind fun e10 => if e10.size = 1 then if (t6 : U).flat = true then (U.bin .add t6 (.int .i64 1)).bind fun t11 => U.asInt x5 fun n12 => if 9 = 9 ∧ 0 ≤ n12 ∧ n12 < ((((b5000.set (n2 : Int).toNat (.agg (us4.set 0 x1))).set (n7 : Int).toNat (.agg (us9.set 1 t6)))).length : Int) then if storable (.val t11) = true ∧ t11.size = 1 then (((b5000.set (n2 : Int).toNat (.agg (us4.set 0 x1))).set (n7 : Int).toNat (.agg (us9.set 1 t6)))[(n12 : Int).toNat]?).bind fun e13 => U.asAgg e13 fun us14 => if 2 = sizes (us14.take 2) then (us14[2]?).bind fun e15 => if e15.size = 1 then if (t11 : U).flat = true then (U.bin .add t11 (.int .i64 1)).bind fun t16 => U.asInt x5 fun n17 => if 9 = 9 ∧ 0 ≤ n17 ∧ n17 < (((((b5000.set (n2 : Int).toNat (.agg (us4.set 0 x1))).set (n7 : Int).toNat (.agg (us9.set 1 t6))).set (n12 : Int).toNat (.agg (us14.set 2 t11)))).length : Int) then if storable (.val t16) = true ∧ t16.size = 1 then ((((b5000.set (n2 : Int).toNat (.agg (us4.set 0 x1))).set (n7 : Int).toNat (.agg (us9.set 1 t6))).set (n12 : Int).toNat (.agg (us14.set 2 t11)))[(n17 : Int).toNat]?).bind fun e18 => U.asAgg e18 fun us19 => if 3 = sizes (us19.take 3) then (us19[3]?).bind fun e20 => if e20.size = 1 then if (t16 : U).flat = true then (U.bin .add t16 (.int .i64 1)).bind fun t21 => U.asInt x5 fun n22 => if 9 = 9 ∧ 0 ≤ n22 ∧ n22 < ((((((b5000.set (n2 : Int).toNat (.agg (us4.set 0 x1))).set (n7 : Int).toNat (.agg (us9.set 1 t6))).set (n12 : Int).toNat (.agg (us14.set 2 t11))).set (n17 : Int).toNat (.agg (us19.set 3 t16)))).length : Int) then if storable (.val t21) = true ∧ t21.size = 1 then (((((b5000.set (n2 : Int).toNat (.agg (us4.set 0 x1))).set (n7 : Int).toNat (.agg (us9.set 1 t6))).set (n12 : Int).toNat (.agg (us14.set 2 t11))).set (n17 : Int).toNat (.agg (us19.set 3 t16)))[(n22 : Int).toNat]?).bind fun e23 => U.asAgg e23 fun us24 => if 4 = sizes (us24.take 4) then (us24[4]?).bind fun e25 => if e25.size = 1 then if (t21 : U).flat = true then (U.bin .add t21 (.int .i64 1)).bind fun t26 => U.asInt x5 fun n27 => if 9 = 9 ∧ 0 ≤ n27 ∧ n27 < (((((((b5000.set (n2 : Int).toNat (.agg (us4.set 0 x1))).set (n7 : Int).toNat (.agg (us9.set 1 t6))).set (n12 : Int).toNat (.agg (us14.set 2 t11))).set (n17 : Int).toNat (.agg (us19.set 3 t16))).set (n22 : Int).toNat (.agg (us24.set 4 t21)))).length : Int) then if storable (.val t26) = true ∧ t26.size = 1 then ((((((b5000.set (n2 : Int).toNat (.agg (us4.set 0 x1))).set (n7 : Int).toNat (.agg (us9.set 1 t6))).set (n12 : Int).toNat (.agg (us14.set 2 t11))).set (n17 : Int).toNat (.agg (us19.set 3 t16))).set (n22 : Int).toNat (.agg (us24.set 4 t21)))[(n27 : Int).toNat]?).bind fun e28 => U.asAgg e28 fun us29 => if 5 = sizes (us29.take 5) then (us29[5]?).bind fun e30 => if e30.size = 1 then if (t26 : U).flat = true then (U.bin .add t26 (.int .i64 1)).bind fun t31 => U.asInt x5 fun n32 => if 9 = 9 ∧ 0 ≤ n32 ∧ n32 < ((((((((b5000.set (n2 : Int).toNat (.agg (us4.set 0 x1))).set (n7 : Int).toNat (.agg (us9.set 1 t6))).set (n12 : Int).toNat (.agg (us14.set 2 t11))).set (n17 : Int).toNat (.agg (us19.set 3 t16))).set (n22 : Int).toNat (.agg (us24.set 4 t21))).set (n27 : Int).toNat (.agg (us29.set 5 t26)))).length : Int) then if storable (.val t31) = true ∧ t31.size = 1 then (((((((b5000.set (n2 : Int).toNat (.agg (us4.set 0 x1))).set (n7 : Int).toNat (.agg (us9.set 1 t6))).set (n12 : Int).toNat (.agg (us14.set 2 t11))).set (n17 : Int).toNat (.agg (us19.set 3 t16))).set (n22 : Int).toNat (.agg (us24.set 4 t21))).set (n27 : Int).toNat (.agg (us29.set 5 t26)))[(n32 : Int).toNat]?).bind fun e33 => U.asAgg e33 fun us34 => if 6 = sizes (us34.take 6) then (us34[6]?).bind fun e35 => if e35.size = 1 then if (t31 : U).flat = true then (U.bin .add t31 (.int .i64 1)).bind fun t36 => U.asInt x5 fun n37 => if 9 = 9 ∧ 0 ≤ n37 ∧ n37 < (((((((((b5000.set (n2 : Int).toNat (.agg (us4.set 0 x1))).set (n7 : Int).toNat (.agg (us9.set 1 t6))).set (n12 : Int).toNat (.agg (us14.set 2 t11))).set (n17 : Int).toNat (.agg (us19.set 3 t16))).set (n22 : Int).toNat (.agg (us24.set 4 t21))).set (n27 : Int).toNat (.agg (us29.set 5 t26))).set (n32 : Int).toNat (.agg (us34.set 6 t31)))).length : Int) then ((((((((b5000.set (n2 : Int).toNat (.agg (us4.set 0 x1))).set (n7 : Int).toNat (.agg (us9.set 1 t6))).set (n12 : Int).toNat (.agg (us14.set 2 t11))).set (n17 : Int).toNat (.agg (us19.set 3 t16))).set (n22 : Int).toNat (.agg (us24.set 4 t21))).set (n27 : Int).toNat (.agg (us29.set 5 t26))).set (n32 : Int).toNat (.agg (us34.set 6 t31)))[(n37 : Int).toNat]?).bind fun e38 => U.asAgg e38 fun us39 => if 7 = sizes (us39.take 7) then (us39[7]?).bind fun e40 => U.asSlK 2 e40 fun _ => ((((((((b5000.set (n2 : Int).toNat (.agg (us4.set 0 x1))).set (n7 : Int).toNat (.agg (us9.set 1 t6))).set (n12 : Int).toNat (.agg (us14.set 2 t11))).set (n17 : Int).toNat (.agg (us19.set 3 t16))).set (n22 : Int).toNat (.agg (us24.set 4 t21))).set (n27 : Int).toNat (.agg (us29.set 5 t26))).set (n32 : Int).toNat (.agg (us34.set 6 t31)))[(n37 : Int).toNat]?).bind fun e41 => U.asAgg e41 fun us42 => if 7 = sizes (us42.take 7) then (us42[7]?).bind fun e43 => U.asSlK 2 e43 fun _ => U.asSlK 2 e43 fun us44 => (E 200095 (.agg [.tup [.sl 2 us44]] :: [t36])).bind fun t45 => U.asMut 2 t45 fun y46 ys47 => U.asFlat y46 fun y46 => ((((((((b5000.set (n2 : Int).toNat (.agg (us4.set 0 x1))).set (n7 : Int).toNat (.agg (us9.set 1 t6))).set (n12 : Int).toNat (.agg (us14.set 2 t11))).set (n17 : Int).toNat (.agg (us19.set 3 t16))).set (n22 : Int).toNat (.agg (us24.set 4 t21))).set (n27 : Int).toNat (.agg (us29.set 5 t26))).set (n32 : Int).toNat (.agg (us34.set 6 t31)))[(n37 : Int).toNat]?).bind fun e48 => U.asAgg e48 fun us49 => if 7 = sizes (us49.take 7) then (us49[7]?).bind fun e50 => if e50.size = 1 then U.asInt x5 fun n51 => if 9 = 9 ∧ 0 ≤ n51 ∧ n51 < ((((((((((b5000.set (n2 : Int).toNat (.agg (us4.set 0 x1))).set (n7 : Int).toNat (.agg (us9.set 1 t6))).set (n12 : Int).toNat (.agg (us14.set 2 t11))).set (n17 : Int).toNat (.agg (us19.set 3 t16))).set (n22 : Int).toNat (.agg (us24.set 4 t21))).set (n27 : Int).toNat (.agg (us29.set 5 t26))).set (n32 : Int).toNat (.agg (us34.set 6 t31))).set (n37 : Int).toNat (.agg (us49.set 7 (.sl 2 ys47))))).length : Int) then (((((((((b5000.set (n2 : Int).toNat (.agg (us4.set 0 x1))).set (n7 : Int).toNat (.agg (us9.set 1 t6))).set (n12 : Int).toNat (.agg (us14.set 2 t11))).set (n17 : Int).toNat (.agg (us19.set 3 t16))).set (n22 : Int).toNat (.agg (us24.set 4 t21))).set (n27 : Int).toNat (.agg (us29.set 5 t26))).set (n32 : Int).toNat (.agg (us34.set 6 t31))).set (n37 : Int).toNat (.agg (us49.set 7 (.sl 2 ys47))))[(n51 : Int).toNat]?).bind fun e52 => U.asAgg e52 fun us53 => if 8 = sizes (us53.take 8) then (us53[8]?).bind fun e54 => U.asSlK 2 e54 fun _ => (((((((((b5000.set (n2 : Int).toNat (.agg (us4.set 0 x1))).set (n7 : Int).toNat (.agg (us9.set 1 t6))).set (n12 : Int).toNat (.agg (us14.set 2 t11))).set (n17 : Int).toNat (.agg (us19.set 3 t16))).set (n22 : Int).toNat (.agg (us24.set 4 t21))).set (n27 : Int).toNat (.agg (us29.set 5 t26))).set (n32 : Int).toNat (.agg (us34.set 6 t31))).set (n37 : Int).toNat (.agg (us49.set 7 (.sl 2 ys47))))[(n51 : Int).toNat]?).bind fun e55 => U.asAgg e55 fun us56 => if 8 = sizes (us56.take 8) then (us56[8]?).bind fun e57 => U.asSlK 2 e57 fun _ => U.asSlK 2 e57 fun us58 => (E 200232 (.agg [.tup [.sl 2 us58]] :: [y46])).bind fun t59 => U.asMut 2 t59 fun y60 ys61 => U.asFlat y60 fun y60 => (((((((((b5000.set (n2 : Int).toNat (.agg (us4.set 0 x1))).set (n7 : Int).toNat (.agg (us9.set 1 t6))).set (n12 : Int).toNat (.agg (us14.set 2 t11))).set (n17 : Int).toNat (.agg (us19.set 3 t16))).set (n22 : Int).toNat (.agg (us24.set 4 t21))).set (n27 : Int).toNat (.agg (us29.set 5 t26))).set (n32 : Int).toNat (.agg (us34.set 6 t31))).set (n37 : Int).toNat (.agg (us49.set 7 (.sl 2 ys47))))[(n51 : Int).toNat]?).bind fun e62 => U.asAgg e62 fun us63 => if 8 = sizes (us63.take 8) then (us63[8]?).bind fun e64 => if e64.size = 1 then (U.bin .add x5 (.int .i64 1)).bind fun t65 => f34_l0 E y60 t65 (((((((((b5000.set (n2 : Int).toNat (.agg (us4.set 0 x1))).set (n7 : Int).toNat (.agg (us9.set 1 t6))).set (n12 : Int).toNat (.agg (us14.set 2 t11))).set (n17 : Int).toNat (.agg (us19.set 3 t16))).set (n22 : Int).toNat (.agg (us24.set 4 t21))).set (n27 : Int).toNat (.agg (us29.set 5 t26))).set (n32 : Int).toNat (.agg (us34.set 6 t31))).set (n37 : Int).toNat (.agg (us49.set 7 (.sl 2 ys47)))).set (n51 : Int).toNat (.agg (us63.set 8 (.sl 2 ys61)))) else none else none else none else none else none else none else none else none else none else none else none else none else none else none else none else none else none else none else none else none else none else none else none else none else none else none else none else none else none else none else none else none else none else none else none else none else none else none else none else none else none else none else none else none else none)
 (if (x1 : U).flat = true then some (.tup [x1, .sl 9 b5000]) else none) := (Qf E _ _ _ _).trans (by kernel_rfl)
structure G_f34 (E : Env) : Prop where
  is : Is E 200318 2 f34_ac [(4, none)]
  c_f33 : G_f33 E
  c_f38 : G_f38 E
theorem f34_E {E : Env} (h : G_f34 E) (xs0 : List U) (a1 : U) : E 200318 (.agg [.tup [.sl 9 xs0]] :: [a1]) =
 f34_l0 E a1 (.int .i64 0) xs0 := (h.is _ rfl).trans ((Qcl rfl).trans (by kernel_rfl))
def f32_b0 : AC :=
 (.seq (.seq (rg [oo 6 (.mv (.t 5)),
  oo 7 (.mv (.t 0)),
  oo 8 (.len false (.t 7)),
  oo 9 (.bin .lss (.t 6) (.t 8))])
 (.cond (.t 9) .skip (.exit 0)))
 (.seq (.block 1 (.seq (rg [oo 12 (.mv (.t 0)),
  oo 13 (.mv (.t 5)),
  oo 14 (.mv (.t 1)),
  oo 15 (.iaddr 2 (.t 12) (.t 13)),
  oo 16 (.faddr 0 0 (.t 15)),
  ⟨none, .store 1 (.t 16) (.t 14), none⟩])
 (.seq (rg [oo 17 (.mv (.t 1)),
  oo 18 (.bin .add (.t 17) (ci 1)),
  oo 1 (.mv (.t 18))])
 (.seq (rg [oo 19 (.mv (.t 0)),
  oo 20 (.mv (.t 5)),
  oo 21 (.mv (.t 1)),
  oo 22 (.iaddr 2 (.t 19) (.t 20)),
  oo 23 (.faddr 1 1 (.t 22)),
  ⟨none, .store 1 (.t 23) (.t 21), none⟩])
 (rg [oo 24 (.mv (.t 1)),
  oo 25 (.bin .add (.t 24) (ci 1)),
  oo 1 (.mv (.t 25))])))))
 (rg [oo 10 (.mv (.t 5)),
  oo 11 (.bin .add (.t 10) (ci 1)),
  oo 5 (.mv (.t 11))])))
def f32_r0 : AC :=
 (.seq (rg [oo 26 (.mv (.t 1)),
  oo 4 (.mv (.t 26))])
 .ret)
def f32_ac : AC :=
 (.seq (rg [oo 4 (.mv (ci 0))])
 (.seq (.seq (rg [oo 5 (.mv (ci 0))])
 (.block 0 (.loop ⟨[0, 1, 5], [], [(5000, true)]⟩ f32_b0)))
 f32_r0))
noncomputable def f32_l0 (E : Env) (x1 : U) (x5 : U) (b5000 : List U) : Option U := loopK (roundOf E ⟨[0, 1, 5], [], [(5000, true)]⟩ f32_b0 (blockK 0 (seqK (fun s => exec E f32_r0 s (finishM 2 [(4, none)])) (finishM 2 [(4, none)])))) ([.ref 5000 [] 2 none, .val x1, .val x5], [.vir (.own (.sl 2 b5000))])
theorem Qj7 (E : Env) (x1 : U) (x5 : U) (b5000 : List U) : f32_l0 E x1 x5 b5000 =
 (U.bin .lss x5 (.int .i64 (b5000.length : Int))).bind fun t1 => U.asBool t1
 (U.asInt x5 fun n2 => if 2 = 2 ∧ 0 ≤ n2 ∧ n2 < (b5000.length : Int) then if storable (.val x1) = true ∧ x1.size = 1 then (b5000[(n2 : Int).toNat]?).bind fun e3 => U.asAgg e3 fun us4 => if 0 = sizes (us4.take 0) then (us4[0]?).bind fun e5 => if e5.size = 1 then if (x1 : U).flat = true then (U.bin .add x1 (.int .i64 1)).bind fun t6 => U.asInt x5 fun n7 => if 2 = 2 ∧ 0 ≤ n7 ∧ n7 < (((b5000.set (n2 : Int).toNat (.agg (us4.set 0 x1)))).length : Int) then if storable (.val t6) = true ∧ t6.size = 1 then ((b5000.set (n2 : Int).toNat (.agg (us4.set 0 x1)))[(n7 : Int).toNat]?).bind fun e8 => U.asAgg e8 fun us9 => if 1 = sizes (us9.take 1) then (us9[1]?).bind fun e10 => if e10.size = 1 then if (t6 : U).flat = true then (U.bin .add t6 (.int .i64 1)).bind fun t11 => (U.bin .add x5 (.int .i64 1)).bind fun t12 => f32_l0 E t11 t12 ((b5000.set (n2 : Int).toNat (.agg (us4.set 0 x1))).set (n7 : Int).toNat (.agg (us9.set 1 t6))) else none else none else none else none else none else none else none else none else none else none)
 (if (x1 : U).flat = true then some (.tup [x1, .sl 2 b5000]) else none) := (Qf E _ _ _ _).trans (by kernel_rfl)
structure G_f32 (E : Env) : Prop where
  is : Is E 200317 2 f32_ac [(4, none)]
theorem f32_E {E : Env} (h : G_f32 E) (xs0 : List U) (a1 : U) : E 200317 (.agg [.tup [.sl 2 xs0]] :: [a1]) =
 f32_l0 E a1 (.int .i64 0) xs0 := (h.is _ rfl).trans ((Qcl rfl).trans (by kernel_rfl))
def f37_b0 : AC :=
 (.seq (.seq (rg [oo 6 (.mv (.t 5)),
  oo 7 (.mv (.t 0)),
  oo 8 (.len false (.t 7)),
  oo 9 (.bin .lss (.t 6) (.t 8))])
 (.cond (.t 9) .skip (.exit 0)))
 (.seq (.block 1 (.seq (rg [oo 12 (.mv (.t 0)),
  oo 13 (.mv (.t 5)),
  oo 14 (.mv (.t 1)),
  oo 15 (.iaddr 2 (.t 12) (.t 13)),
  oo 16 (.faddr 0 0 (.t 15)),
  ⟨none, .store 1 (.t 16) (.t 14), none⟩])
 (.seq (rg [oo 17 (.mv (.t 1)),
  oo 18 (.bin .add (.t 17) (ci 1)),
  oo 1 (.mv (.t 18))])
 (.seq (rg [oo 19 (.mv (.t 0)),
  oo 20 (.mv (.t 5)),
  oo 21 (.mv (.t 1)),
  oo 22 (.iaddr 2 (.t 19) (.t 20)),
  oo 23 (.faddr 1 1 (.t 22)),
  ⟨none, .store 1 (.t 23) (.t 21), none⟩])
 (rg [oo 24 (.mv (.t 1)),
  oo 25 (.bin .add (.t 24) (ci 1)),
  oo 1 (.mv (.t 25))])))))
 (rg [oo 10 (.mv (.t 5)),
  oo 11 (.bin .add (.t 10) (ci 1)),
  oo 5 (.mv (.t 11))])))
def f37_r0 : AC :=
 (.seq (rg [oo 26 (.mv (.t 1)),
  oo 4 (.mv (.t 26))])
 .ret)
def f37_ac : AC :=
 (.seq (rg [oo 4 (.mv (ci 0))])
 (.seq (.seq (rg [oo 5 (.mv (ci 0))])
 (.block 0 (.loop ⟨[0, 1, 5], [], [(5000, true)]⟩ f37_b0)))
 f37_r0))
noncomputable def f37_l0 (E : Env) (x1 : U) (x5 : U) (b5000 : List U) : Option U := loopK (roundOf E ⟨[0, 1, 5], [], [(5000, true)]⟩ f37_b0 (blockK 0 (seqK (fun s => exec E f37_r0 s (finishM 2 [(4, none)])) (finishM 2 [(4, none)])))) ([.ref 5000 [] 2 none, .val x1, .val x5], [.vir (.own (.sl 2 b5000))])
theorem Qkh (E : Env) (x1 : U) (x5 : U) (b5000 : List U) : f37_l0 E x1 x5 b5000 =
 (U.bin .lss x5 (.int .i64 (b5000.length : Int))).bind fun t1 => U.asBool t1
 (U.asInt x5 fun n2 => if 2 = 2 ∧ 0 ≤ n2 ∧ n2 < (b5000.length : Int) then if storable (.val x1) = true ∧ x1.size = 1 then (b5000[(n2 : Int).toNat]?).bind fun e3 => U.asAgg e3 fun us4 => if 0 = sizes (us4.take 0) then (us4[0]?).bind fun e5 => if e5.size = 1 then if (x1 : U).flat = true then (U.bin .add x1 (.int .i64 1)).bind fun t6 => U.asInt x5 fun n7 => if 2 = 2 ∧ 0 ≤ n7 ∧ n7 < (((b5000.set (n2 : Int).toNat (.agg (us4.set 0 x1)))).length : Int) then if storable (.val t6) = true ∧ t6.size = 1 then ((b5000.set (n2 : Int).toNat (.agg (us4.set 0 x1)))[(n7 : Int).toNat]?).bind fun e8 => U.asAgg e8 fun us9 => if 1 = sizes (us9.take 1) then (us9[1]?).bind fun e10 => if e10.size = 1 then if (t6 : U).flat = true then (U.bin .add t6 (.int .i64 1)).bind fun t11 => (U.bin .add x5 (.int .i64 1)).bind fun t12 => f37_l0 E t11 t12 ((b5000.set (n2 : Int).toNat (.agg (us4.set 0 x1))).set (n7 : Int).toNat (.agg (us9.set 1 t6))) else none else none else none else none else none else none else none else none else none else none)
 (if (x1 : U).flat = true then some (.tup [x1, .sl 2 b5000]) else none) := (Qf E _ _ _ _).trans (by kernel_rfl)
structure G_f37 (E : Env) : Prop where
  is : Is E 200316 2 f37_ac [(4, none)]
theorem f37_E {E : Env} (h : G_f37 E) (xs0 : List U) (a1 : U) : E 200316 (.agg [.tup [.sl 2 xs0]] :: [a1]) =
 f37_l0 E a1 (.int .i64 0) xs0 := (h.is _ rfl).trans ((Qcl rfl).trans (by kernel_rfl))
def f36_b0 : AC :=
 (.seq (.seq (rg [oo 6 (.mv (.t 5)),
  oo 7 (.mv (.t 0)),
  oo 8 (.len false (.t 7)),
  oo 9 (.bin .lss (.t 6) (.t 8))])
 (.cond (.t 9) .skip (.exit 0)))
 (.seq (.block 1 (.seq (rg [oo 12 (.mv (.t 0)),
  oo 13 (.mv (.t 5)),
  oo 14 (.mv (.t 1)),
  oo 15 (.iaddr 5 (.t 12) (.t 13)),
  oo 16 (.faddr 0 0 (.t 15)),
  ⟨none, .store 1 (.t 16) (.t 14), none⟩])
 (.seq (rg [oo 17 (.mv (.t 1)),
  oo 18 (.bin .add (.t 17) (ci 1)),
  oo 1 (.mv (.t 18))])
 (.seq (rg [oo 19 (.mv (.t 0)),
  oo 20 (.mv (.t 5)),
  oo 21 (.mv (.t 1)),
  oo 22 (.iaddr 5 (.t 19) (.t 20)),
  oo 23 (.faddr 1 1 (.t 22)),
  ⟨none, .store 1 (.t 23) (.t 21), none⟩])
 (.seq (rg [oo 24 (.mv (.t 1)),
  oo 25 (.bin .add (.t 24) (ci 1)),
  oo 1 (.mv (.t 25))])
 (.seq (rg [oo 26 (.mv (.t 0)),
  oo 27 (.mv (.t 5)),
  oo 28 (.mv (.t 1)),
  oo 29 (.iaddr 5 (.t 26) (.t 27)),
  oo 30 (.faddr 2 2 (.t 29)),
  ⟨none, .store 1 (.t 30) (.t 28), none⟩])
 (.seq (rg [oo 31 (.mv (.t 1)),
  oo 32 (.bin .add (.t 31) (ci 1)),
  oo 1 (.mv (.t 32))])
 (.seq (rg [oo 33 (.mv (.t 0)),
  oo 34 (.mv (.t 5)),
  oo 35 (.mv (.t 1)),
  oo 36 (.iaddr 5 (.t 33) (.t 34)),
  oo 37 (.faddr 3 3 (.t 36)),
  ⟨none, .store 1 (.t 37) (.t 35), none⟩])
 (.seq (rg [oo 38 (.mv (.t 1)),
  oo 39 (.bin .add (.t 38) (ci 1)),
  oo 1 (.mv (.t 39))])
 (.seq (rg [oo 40 (.mv (.t 0)),
  oo 41 (.mv (.t 5)),
  oo 42 (.mv (.t 1)),
  oo 43 (.iaddr 5 (.t 40) (.t 41)),
  oo 44 (.faddr 4 4 (.t 43)),
  ⟨none, .store 1 (.t 44) (.t 42), none⟩])
 (rg [oo 45 (.mv (.t 1)),
  oo 46 (.bin .add (.t 45) (ci 1)),
  oo 1 (.mv (.t 46))])))))))))))
 (rg [oo 10 (.mv (.t 5)),
  oo 11 (.bin .add (.t 10) (ci 1)),
  oo 5 (.mv (.t 11))])))
def f36_r0 : AC :=
 (.seq (rg [oo 47 (.mv (.t 1)),
  oo 4 (.mv (.t 47))])
 .ret)
def f36_ac : AC :=
 (.seq (rg [oo 4 (.mv (ci 0))])
 (.seq (.seq (rg [oo 5 (.mv (ci 0))])
 (.block 0 (.loop ⟨[0, 1, 5], [], [(5000, true)]⟩ f36_b0)))
 f36_r0))
noncomputable def f36_l0 (E : Env) (x1 : U) (x5 : U) (b5000 : List U) : Option U := loopK (roundOf E ⟨[0, 1, 5], [], [(5000, true)]⟩ f36_b0 (blockK 0 (seqK (fun s => exec E f36_r0 s (finishM 5 [(4, none)])) (finishM 5 [(4, none)])))) ([.ref 5000 [] 5 none, .val x1, .val x5], [.vir (.own (.sl 5 b5000))])
theorem Qkf (E : Env) (x1 : U) (x5 : U) (b5000 : List U) : f36_l0 E x1 x5 b5000 =
 (U.bin .lss x5 (.int .i64 (b5000.length : Int))).bind fun t1 => U.asBool t1
 (U.asInt x5 fun n2 => if 5 = 5 ∧ 0 ≤ n2 ∧ n2 < (b5000.length : Int) then if storable (.val x1) = true ∧ x1.size = 1 then (b5000[(n2 : Int).toNat]?).bind fun e3 => U.asAgg e3 fun us4 => if 0 = sizes (us4.take 0) then (us4[0]?).bind fun e5 => if e5.size = 1 then if (x1 : U).flat = true then (U.bin .add x1 (.int .i64 1)).bind fun t6 => U.asInt x5 fun n7 => if 5 = 5 ∧ 0 ≤ n7 ∧ n7 < (((b5000.set (n2 : Int).toNat (.agg (us4.set 0 x1)))).length : Int) then if storable (.val t6) = true ∧ t6.size = 1 then ((b5000.set (n2 : Int).toNat (.agg (us4.set 0 x1)))[(n7 : Int).toNat]?).bind fun e8 => U.asAgg e8 fun us9 => if 1 = sizes (us9.take 1) then (us9[1]?).bind fun e10 => if e10.size = 1 then if (t6 : U).flat = true then (U.bin .add t6 (.int .i64 1)).bind fun t11 => U.asInt x5 fun n12 => if 5 = 5 ∧ 0 ≤ n12 ∧ n12 < ((((b5000.set (n2 : Int).toNat (.agg (us4.set 0 x1))).set (n7 : Int).toNat (.agg (us9.set 1 t6)))).length : Int) then if storable (.val t11) = true ∧ t11.size = 1 then (((b5000.set (n2 : Int).toNat (.agg (us4.set 0 x1))).set (n7 : Int).toNat (.agg (us9.set 1 t6)))[(n12 : Int).toNat]?).bind fun e13 => U.asAgg e13 fun us14 => if 2 = sizes (us14.take 2) then (us14[2]?).bind fun e15 => if e15.size = 1 then if (t11 : U).flat = true then (U.bin .add t11 (.int .i64 1)).bind fun t16 => U.asInt x5 fun n17 => if 5 = 5 ∧ 0 ≤ n17 ∧ n17 < (((((b5000.set (n2 : Int).toNat (.agg (us4.set 0 x1))).set (n7 : Int).toNat (.agg (us9.set 1 t6))).set (n12 : Int).toNat (.agg (us14.set 2 t11)))).length : Int) then if storable (.val t16) = true ∧ t16.size = 1 then ((((b5000.set (n2 : Int).toNat (.agg (us4.set 0 x1))).set (n7 : Int).toNat (.agg (us9.set 1 t6))).set (n12 : Int).toNat (.agg (us14.set 2 t11)))[(n17 : Int).toNat]?).bind fun e18 => U.asAgg e18 fun us19 => if 3 = sizes (us19.take 3) then (us19[3]?).bind fun e20 => if e20.size = 1 then if (t16 : U).flat = true then (U.bin .add t16 (.int .i64 1)).bind fun t21 => U.asInt x5 fun n22 => if 5 = 5 ∧ 0 ≤ n22 ∧ n22 < ((((((b5000.set (n2 : Int).toNat (.agg (us4.set 0 x1))).set (n7 : Int).toNat (.agg (us9.set 1 t6))).set (n12 : Int).toNat (.agg (us14.set 2 t11))).set (n17 : Int).toNat (.agg (us19.set 3 t16)))).length : Int) then if storable (.val t21) = true ∧ t21.size = 1 then (((((b5000.set (n2 : Int).toNat (.agg (us4.set 0 x1))).set (n7 : Int).toNat (.agg (us9.set 1 t6))).set (n12 : Int).toNat (.agg (us14.set 2 t11))).set (n17 : Int).toNat (.agg (us19.set 3 t16)))[(n22 : Int).toNat]?).bind fun e23 => U.asAgg e23 fun us24 => if 4 = sizes (us24.take 4) then (us24[4]?).bind fun e25 => if e25.size = 1 then if (t21 : U).flat = true then (U.bin .add t21 (.int .i64 1)).bind fun t26 => (U.bin .add x5 (.int .i64 1)).bind fun t27 => f36_l0 E t26 t27 (((((b5000.set (n2 : Int).toNat (.agg (us4.set 0 x1))).set (n7 : Int).toNat (.agg (us9.set 1 t6))).set (n12 : Int).toNat (.agg (us14.set 2 t11))).set (n17 : Int).toNat (.agg (us19.set 3 t16))).set (n22 : Int).toNat (.agg (us24.set 4 t21))) else none else none else none else none else none else none else none else none else none else none else none else none else none else none else none else none else none else none else none else none else none else none else none else none else none)
 (if (x1 : U).flat = true then some (.tup [x1, .sl 5 b5000]) else none) := (Qf E _ _ _ _).trans (by kernel_rfl)
structure G_f36 (E : Env) : Prop where
  is : Is E 200122 2 f36_ac [(4, none)]
theorem f36_E {E : Env} (h : G_f36 E) (xs0 : List U) (a1 : U) : E 200122 (.agg [.tup [.sl 5 xs0]] :: [a1]) =
 f36_l0 E a1 (.int .i64 0) xs0 := (h.is _ rfl).trans ((Qcl rfl).trans (by kernel_rfl))
def f35_b0 : AC :=
 (.seq (.seq (rg [oo 6 (.mv (.t 5)),
  oo 7 (.mv (.t 0)),
  oo 8 (.len false (.t 7)),
  oo 9 (.bin .lss (.t 6) (.t 8))])
 (.cond (.t 9) .skip (.exit 0)))
 (.seq (.block 1 (rg [oo 12 (.mv (.t 0)),
  oo 13 (.mv (.t 5)),
  oo 14 (.iaddr 1 (.t 12) (.t 13)),
  oo 15 (.loadO (.sl 5) (.t 14)),
  oo 16 (.mv (.t 1)),
  oo 17 (.callM 5 122 (.t 15) [(.t 16)]),
  oo 1 (.mv (.t 17))]))
 (rg [oo 10 (.mv (.t 5)),
  oo 11 (.bin .add (.t 10) (ci 1)),
  oo 5 (.mv (.t 11))])))
def f35_r0 : AC :=
 (.seq (rg [oo 18 (.mv (.t 1)),
  oo 4 (.mv (.t 18))])
 .ret)
def f35_ac : AC :=
 (.seq (rg [oo 4 (.mv (ci 0))])
 (.seq (.seq (rg [oo 5 (.mv (ci 0))])
 (.block 0 (.loop ⟨[0, 1, 5], [], [(5000, true)]⟩ f35_b0)))
 f35_r0))
noncomputable def f35_l0 (E : Env) (x1 : U) (x5 : U) (b5000 : List U) : Option U := loopK (roundOf E ⟨[0, 1, 5], [], [(5000, true)]⟩ f35_b0 (blockK 0 (seqK (fun s => exec E f35_r0 s (finishM 1 [(4, none)])) (finishM 1 [(4, none)])))) ([.ref 5000 [] 1 none, .val x1, .val x5], [.vir (.own (.sl 1 b5000))])
theorem Qkd (E : Env) (x1 : U) (x5 : U) (b5000 : List U) : f35_l0 E x1 x5 b5000 =
 (U.bin .lss x5 (.int .i64 (b5000.length : Int))).bind fun t1 => U.asBool t1
 (U.asInt x5 fun n2 => if 1 = 1 ∧ 0 ≤ n2 ∧ n2 < (b5000.length : Int) then (b5000[(n2 : Int).toNat]?).bind fun e3 => U.asSlK 5 e3 fun _ => (b5000[(n2 : Int).toNat]?).bind fun e4 => U.asSlK 5 e4 fun _ => U.asSlK 5 e4 fun us5 => (E 200122 (.agg [.tup [.sl 5 us5]] :: [x1])).bind fun t6 => U.asMut 5 t6 fun y7 ys8 => U.asFlat y7 fun y7 => (b5000[(n2 : Int).toNat]?).bind fun e9 => if e9.size = 1 then (U.bin .add x5 (.int .i64 1)).bind fun t10 => f35_l0 E y7 t10 (b5000.set (n2 : Int).toNat (.sl 5 ys8)) else none else none)
 (if (x1 : U).flat = true then some (.tup [x1, .sl 1 b5000]) else none) := (Qf E _ _ _ _).trans (by kernel_rfl)
structure G_f35 (E : Env) : Prop where
  is : Is E 200121 2 f35_ac [(4, none)]
  c_f36 : G_f36 E
theorem f35_E {E : Env} (h : G_f35 E) (xs0 : List U) (a1 : U) : E 200121 (.agg [.tup [.sl 1 xs0]] :: [a1]) =
 f35_l0 E a1 (.int .i64 0) xs0 := (h.is _ rfl).trans ((Qcl rfl).trans (by kernel_rfl))
def f7_i1_r0 : AC :=
 (rg [oo 70 (.mv (.t 77))])
def f7_r1 : AC :=
 (rg [oo 7 (.mv (.t 34))])
def f7_i0_r0 : AC :=
 (rg [oo 70 (.mv (.t 77))])
def f7_r0 : AC :=
 (rg [oo 8 (.mv (.t 45))])
def f7_ac : AC :=
 (.seq (rg [oo 1 (.box false 1 (.t 0)),
  oo 2 (.mv (.c (.bool false)))])
 (.seq (rg [oo 3 (.mv (ci 1048576))])
 (.seq (rg [oo 11 (.load true 6 (.t 1)),
  oo 12 (.mv (.t 3)),
  oo 13 (.call false 128 [(.t 11), (.t 12)]),
  oo 3 (.mv (.t 13))])
 (.seq (.seq (rg [oo 14 (.mv (.t 3)),
  oo 15 (.bin .lss (.t 14) (ci 0))])
 (.cond (.t 15) (.seq (rg [oo 2 (.mv (.c (.bool true)))])
 .ret) .skip))
 (.seq (rg [oo 16 (.load true 6 (.t 1)),
  oo 17 (.call false 124 [(.t 16)]),
  oo 18 (.callF 18 false [(.agg [.bool, (.agg [(.sl 1)]), (.sl 9), (.sl 2), (.sl 2), .int])] 343 [(.t 17)]),
  oo 4 (.alloc 4 (.agg [(.bool false), (.agg [(.nsl 1)]), (.nsl 9), (.nsl 2), (.nsl 2), (.int .i64 0)])),
  ⟨none, .storeM 3000 6 (.t 4) (.t 18), none⟩])
 (.seq (rg [oo 19 (.load true 6 (.t 1)),
  oo 20 (.callF 20 false [(.agg [.bool, (.agg [(.sl 1)]), (.sl 9), (.sl 2), (.sl 2), .int])] 124 [(.t 19)]),
  oo 5 (.alloc 5 (.agg [(.bool false), (.agg [(.nsl 1)]), (.nsl 9), (.nsl 2), (.nsl 2), (.int .i64 0)])),
  ⟨none, .storeM 3001 6 (.t 5) (.t 20), none⟩])
 (.seq (rg [oo 21 (.loadO (.agg [.bool, (.agg [(.sl 1)]), (.sl 9), (.sl 2), (.sl 2), .int]) (.t 5)),
  oo 22 (.callF 22 false [(.agg [.bool, (.agg [(.sl 1)]), (.sl 9), (.sl 2), (.sl 2), .int])] 342 [(.t 21)]),
  oo 6 (.alloc 6 (.agg [(.bool false), (.agg [(.nsl 1)]), (.nsl 9), (.nsl 2), (.nsl 2), (.int .i64 0)])),
  ⟨none, .storeM 3002 6 (.t 6) (.t 22), none⟩])
 (.seq (.seq (rg [oo 23 (.loadO (.agg [.bool, (.agg [(.sl 1)]), (.sl 9), (.sl 2), (.sl 2), .int]) (.t 6)),
  oo 24 (.loadO (.agg [.bool, (.agg [(.sl 1)]), (.sl 9), (.sl 2), (.sl 2), .int]) (.t 4)),
  oo 25 (.call false 125 [(.t 23), (.t 24)]),
  oo 26 (.un .not (.t 25))])
 (.cond (.t 26) (.seq (rg [oo 2 (.mv (.c (.bool false)))])
 .ret) .skip))
 (.seq (.seq (.region 5 [oo 27 (.loadO (.agg [.bool, (.agg [(.sl 1)]), (.sl 9), (.sl 2), (.sl 2), .int]) (.t 5)),
  oo 28 (.load true 6 (.t 1)),
  oo 29 (.call false 124 [(.t 28)]),
  oo 30 (.call false 125 [(.t 27), (.t 29)]),
  oo 31 (.un .not (.t 30))])
 (.cond (.t 31) (.seq (rg [oo 2 (.mv (.c (.bool false)))])
 .ret) .skip))
 (.seq (rg [oo 7 (.mv (ci 1))])
 (.seq (.regI 0 [oo 32 (.loadO (.agg [.bool, (.agg [(.sl 1)]), (.sl 9), (.sl 2), (.sl 2), .int]) (.t 5)),
  oo 33 (.mv (.t 7))] ⟨some 34, 69, 22, 315, [(.t 32), (.t 33)], [4]⟩ (.seq (rg [oo 71 (.boxS 71 (.t 69)),
  oo 73 (.mv (ci 0))])
 (.seq (.regI 0 [oo 74 (.faddr 1 1 (.t 71)),
  oo 75 (.loadO (.agg [(.sl 1)]) (.t 74)),
  oo 76 (.mv (.t 70))] ⟨some 77, 91, 10, 96, [(.t 75), (.t 76)], [4]⟩ (.seq (rg [oo 93 (.boxS 93 (.t 91)),
  oo 95 (.mv (ci 0))])
 (.seq (rg [oo 96 (.faddr 0 0 (.t 93)),
  oo 97 (.load false 1 (.t 96)),
  oo 98 (.mv (.t 92)),
  oo 99 (.callM 1 121 (.t 97) [(.t 98)]),
  oo 92 (.mv (.t 99))])
 (.seq (rg [oo 100 (.mv (.t 92)),
  oo 95 (.mv (.t 100))])
 .ret))) f7_i1_r0)
 (.seq (rg [oo 78 (.faddr 2 2 (.t 71)),
  oo 79 (.load false 1 (.t 78)),
  oo 80 (.mv (.t 70)),
  oo 81 (.callM 9 318 (.t 79) [(.t 80)]),
  oo 70 (.mv (.t 81))])
 (.seq (rg [oo 82 (.faddr 3 3 (.t 71)),
  oo 83 (.load false 1 (.t 82)),
  oo 84 (.mv (.t 70)),
  oo 85 (.callM 2 317 (.t 83) [(.t 84)]),
  oo 70 (.mv (.t 85))])
 (.seq (rg [oo 86 (.faddr 4 4 (.t 71)),
  oo 87 (.load false 1 (.t 86)),
  oo 88 (.mv (.t 70)),
  oo 89 (.callM 2 316 (.t 87) [(.t 88)]),
  oo 70 (.mv (.t 89))])
 (.seq (rg [oo 90 (.mv (.t 70)),
  oo 73 (.mv (.t 90))])
 .ret)))))) f7_r1)
 (.seq (.seq (rg [oo 35 (.mv (.t 7)),
  oo 36 (.bin .lss (.t 35) (ci 0)),
  oo 37 (.mv (.t 36)),
  ⟨some 38, .loadO (.agg [.bool, (.agg [(.sl 1)]), (.sl 9), (.sl 2), (.sl 2), .int]) (.t 6), some (37, false)⟩,
  ⟨some 39, .loadO (.agg [.bool, (.agg [(.sl 1)]), (.sl 9), (.sl 2), (.sl 2), .int]) (.t 4), some (37, false)⟩,
  ⟨some 40, .call false 125 [(.t 38), (.t 39)], some (37, false)⟩,
  ⟨some 41, .un .not (.t 40), some (37, false)⟩,
  oo 42 (.pick (.t 37) (.c (.bool true)) (.t 41))])
 (.cond (.t 42) (.seq (rg [oo 2 (.mv (.c (.bool false)))])
 .ret) .skip))
 (.seq (rg [oo 8 (.mv (ci 1))])
 (.seq (.regI 0 [oo 43 (.loadO (.agg [.bool, (.agg [(.sl 1)]), (.sl 9), (.sl 2), (.sl 2), .int]) (.t 6)),
  oo 44 (.mv (.t 8))] ⟨some 45, 69, 22, 315, [(.t 43), (.t 44)], [4]⟩ (.seq (rg [oo 71 (.boxS 71 (.t 69)),
  oo 73 (.mv (ci 0))])
 (.seq (.regI 0 [oo 74 (.faddr 1 1 (.t 71)),
  oo 75 (.loadO (.agg [(.sl 1)]) (.t 74)),
  oo 76 (.mv (.t 70))] ⟨some 77, 91, 10, 96, [(.t 75), (.t 76)], [4]⟩ (.seq (rg [oo 93 (.boxS 93 (.t 91)),
  oo 95 (.mv (ci 0))])
 (.seq (rg [oo 96 (.faddr 0 0 (.t 93)),
  oo 97 (.load false 1 (.t 96)),
  oo 98 (.mv (.t 92)),
  oo 99 (.callM 1 121 (.t 97) [(.t 98)]),
  oo 92 (.mv (.t 99))])
 (.seq (rg [oo 100 (.mv (.t 92)),
  oo 95 (.mv (.t 100))])
 .ret))) f7_i0_r0)
 (.seq (rg [oo 78 (.faddr 2 2 (.t 71)),
  oo 79 (.load false 1 (.t 78)),
  oo 80 (.mv (.t 70)),
  oo 81 (.callM 9 318 (.t 79) [(.t 80)]),
  oo 70 (.mv (.t 81))])
 (.seq (rg [oo 82 (.faddr 3 3 (.t 71)),
  oo 83 (.load false 1 (.t 82)),
  oo 84 (.mv (.t 70)),
  oo 85 (.callM 2 317 (.t 83) [(.t 84)]),
  oo 70 (.mv (.t 85))])
 (.seq (rg [oo 86 (.faddr 4 4 (.t 71)),
  oo 87 (.load false 1 (.t 86)),
  oo 88 (.mv (.t 70)),
  oo 89 (.callM 2 316 (.t 87) [(.t 88)]),
  oo 70 (.mv (.t 89))])
 (.seq (rg [oo 90 (.mv (.t 70)),
  oo 73 (.mv (.t 90))])
 .ret)))))) f7_r0)
 (.seq (rg [oo 9 (.mv (ci 1))])
 (.seq (rg [oo 46 (.loadO (.agg [.bool, (.agg [(.sl 1)]), (.sl 9), (.sl 2), (.sl 2), .int]) (.t 6)),
  oo 47 (.mv (.t 9)),
  oo 48 (.call false 319 [(.t 46), (.t 47)]),
  oo 9 (.mv (.t 48))])
 (.seq (.seq (rg [oo 49 (.mv (.t 9)),
  oo 50 (.bin .lss (.t 49) (ci 0))])
 (.cond (.t 50) (.seq (rg [oo 2 (.mv (.c (.bool false)))])
 .ret) .skip))
 (.seq (.seq (rg [oo 51 (.mv (.t 9)),
  oo 52 (.mv (.t 8)),
  oo 53 (.bin .neq (.t 51) (.t 52))])
 (.cond (.t 53) (.seq (rg [oo 2 (.mv (.c (.bool false)))])
 .ret) .skip))
 (.seq (rg [oo 54 (.load true 6 (.t 1)),
  oo 55 (.call false 124 [(.t 54)]),
  oo 56 (.call false 342 [(.t 55)]),
  oo 10 (.alloc 10 (.agg [(.bool false), (.agg [(.nsl 1)]), (.nsl 9), (.nsl 2), (.nsl 2), (.int .i64 0)])),
  ⟨none, .store 6 (.t 10) (.t 56), none⟩])
 (.seq (.seq (rg [oo 57 (.load true 6 (.t 10)),
  oo 58 (.loadO (.agg [.bool, (.agg [(.sl 1)]), (.sl 9), (.sl 2), (.sl 2), .int]) (.t 4)),
  oo 59 (.call false 125 [(.t 57), (.t 58)]),
  oo 60 (.un .not (.t 59))])
 (.cond (.t 60) (.seq (rg [oo 2 (.mv (.c (.bool false)))])
 .ret) .skip))
 (.seq (rg [oo 9 (.mv (ci 1))])
 (.seq (rg [oo 61 (.loadO (.agg [.bool, (.agg [(.sl 1)]), (.sl 9), (.sl 2), (.sl 2), .int]) (.t 6)),
  oo 62 (.mv (.t 9)),
  oo 63 (.call false 319 [(.t 61), (.t 62)]),
  oo 9 (.mv (.t 63))])
 (.seq (.seq (rg [oo 64 (.mv (.t 9)),
  oo 65 (.bin .lss (.t 64) (ci 0))])
 (.cond (.t 65) (.seq (rg [oo 2 (.mv (.c (.bool false)))])
 .ret) .skip))
 (.seq (.seq (rg [oo 66 (.mv (.t 9)),
  oo 67 (.mv (.t 8)),
  oo 68 (.bin .neq (.t 66) (.t 67))])
 (.cond (.t 68) (.seq (rg [oo 2 (.mv (.c (.bool false)))])
 .ret) .skip))
 (.seq (rg [oo 2 (.mv (.c (.bool true)))])
 .ret)))))))))))))))))))))))))
structure G_f7 (E : Env) : Prop where
  is : Is E 341 1 f7_ac [(2, none)]
  c_f39 : G_f39 E
  c_f49 : G_f49 E
  c_f1 : G_f1 E
  c_f8 : G_f8 E
  c_f23 : G_f23 E
  c_f81 : G_f81 E
  c_f50 : G_f50 E
  c_f3 : G_f3 E
  c_f34 : G_f34 E
  c_f32 : G_f32 E
  c_f37 : G_f37 E
  c_f35 : G_f35 E
theorem f7_E {E : Env} (h : G_f7 E) (a0 : U) : E 341 [a0] =
 U.noTup a0 fun x1 => U.asVar true 6 x1 fun e2 => (E 128 [e2, (.int .i64 1048576)]).bind fun t3 => (U.bin .lss t3 (.int .i64 0)).bind fun t4 => U.asBool t4
 (some (.bool true))
 (U.asVar true 6 x1 fun e5 => (E 124 [e5]).bind fun t6 => (E 100343 [t6]).bind fun t7 => U.noTup t7 fun x8 => U.asAgg x8 fun us9 => (uncons us9 fun u10 us11 => U.asB u10 fun b12 => (uncons us11 fun u13 us14 => U.asAgg u13 fun us15 => (uncons us15 fun u16 us17 => U.asSlK 1 u16 fun us18 => (unnil us17 ((uncons us14 fun u19 us20 => U.asSlK 9 u19 fun us21 => (uncons us20 fun u22 us23 => U.asSlK 2 u22 fun us24 => (uncons us23 fun u25 us26 => U.asSlK 2 u25 fun us27 => (uncons us26 fun u28 us29 => U.asInt u28 fun n30 => (unnil us29 (U.asVar true 6 x1 fun e31 => (E 100124 [e31]).bind fun t32 => U.noTup t32 fun x33 => U.asAgg x33 fun us34 => (uncons us34 fun u35 us36 => U.asB u35 fun b37 => (uncons us36 fun u38 us39 => U.asAgg u38 fun us40 => (uncons us40 fun u41 us42 => U.asSlK 1 u41 fun us43 => (unnil us42 ((uncons us39 fun u44 us45 => U.asSlK 9 u44 fun us46 => (uncons us45 fun u47 us48 => U.asSlK 2 u47 fun us49 => (uncons us48 fun u50 us51 => U.asSlK 2 u50 fun us52 => (uncons us51 fun u53 us54 => U.asInt u53 fun n55 => (unnil us54 ((E 100342 [(.agg [(.bool b37), (.agg [(.sl 1 us43)]), (.sl 9 us46), (.sl 2 us49), (.sl 2 us52), (.int .i64 n55)])]).bind fun t56 => U.noTup t56 fun x57 => U.asAgg x57 fun us58 => (uncons us58 fun u59 us60 => U.asB u59 fun b61 => (uncons us60 fun u62 us63 => U.asAgg u62 fun us64 => (uncons us64 fun u65 us66 => U.asSlK 1 u65 fun us67 => (unnil us66 ((uncons us63 fun u68 us69 => U.asSlK 9 u68 fun us70 => (uncons us69 fun u71 us72 => U.asSlK 2 u71 fun us73 => (uncons us72 fun u74 us75 => U.asSlK 2 u74 fun us76 => (uncons us75 fun u77 us78 => U.asInt u77 fun n79 => (unnil us78 ((E 125 [(.agg [(.bool b61), (.agg [(.sl 1 us67)]), (.sl 9 us70), (.sl 2 us73), (.sl 2 us76), (.int .i64 n79)]), (.agg [(.bool b12), (.agg [(.sl 1 us18)]), (.sl 9 us21), (.sl 2 us24), (.sl 2 us27), (.int .i64 n30)])]).bind fun t80 => U.asFlat t80 fun t81 => (U.un .not t81).bind fun t82 => U.asBool t82
 (some (.bool false))
 (U.asVar true 6 x1 fun e83 => (E 124 [e83]).bind fun t84 => (E 125 [(.agg [(.bool b37), (.agg [(.sl 1 us43)]), (.sl 9 us46), (.sl 2 us49), (.sl 2 us52), (.int .i64 n55)]), t84]).bind fun t85 => U.asFlat t85 fun t86 => (U.un .not t86).bind fun t87 => U.asBool t87
 (some (.bool false))
 (if 1 = 1 then (E 200121 (.agg [.tup [.sl 1 us43]] :: [(.int .i64 1)])).bind fun t88 => U.asMut 1 t88 fun y89 ys90 => U.asFlat y89 fun y89 => if partable (.val y89) = true then (E 200318 (.agg [.tup [.sl 9 us46]] :: [y89])).bind fun t91 => U.asMut 9 t91 fun y92 ys93 => U.asFlat y92 fun y92 => (E 200317 (.agg [.tup [.sl 2 us49]] :: [y92])).bind fun t94 => U.asMut 2 t94 fun y95 ys96 => U.asFlat y95 fun y95 => (E 200316 (.agg [.tup [.sl 2 us52]] :: [y95])).bind fun t97 => U.asMut 2 t97 fun y98 ys99 => U.asFlat y98 fun y98 => if partable (.val y98) = true then (U.bin .lss y98 (.int .i64 0)).bind fun t100 => U.asBool t100
 (some (.bool false))
 ((E 125 [(.agg [(.bool b61), (.agg [(.sl 1 us67)]), (.sl 9 us70), (.sl 2 us73), (.sl 2 us76), (.int .i64 n79)]), (.agg [(.bool b12), (.agg [(.sl 1 us18)]), (.sl 9 us21), (.sl 2 us24), (.sl 2 us27), (.int .i64 n30)])]).bind fun t101 => U.asFlat t101 fun t102 => (U.un .not t102).bind fun t103 => U.asBool t103
 (some (.bool false))
 (if 1 = 1 then (E 200121 (.agg [.tup [.sl 1 us67]] :: [(.int .i64 1)])).bind fun t104 => U.asMut 1 t104 fun y105 ys106 => U.asFlat y105 fun y105 => if partable (.val y105) = true then (E 200318 (.agg [.tup [.sl 9 us70]] :: [y105])).bind fun t107 => U.asMut 9 t107 fun y108 ys109 => U.asFlat y108 fun y108 => (E 200317 (.agg [.tup [.sl 2 us73]] :: [y108])).bind fun t110 => U.asMut 2 t110 fun y111 ys112 => U.asFlat y111 fun y111 => (E 200316 (.agg [.tup [.sl 2 us76]] :: [y111])).bind fun t113 => U.asMut 2 t113 fun y114 ys115 => U.asFlat y114 fun y114 => if partable (.val y114) = true then (E 319 [(.agg [(.bool b61), (.agg [(.sl 1 ys106)]), (.sl 9 ys109), (.sl 2 ys112), (.sl 2 ys115), (.int .i64 n79)]), (.int .i64 1)]).bind fun t116 => U.asFlat t116 fun t117 => (U.bin .lss t117 (.int .i64 0)).bind fun t118 => U.asBool t118
 (some (.bool false))
 ((U.bin .neq t117 y114).bind fun t119 => U.asBool t119
 (some (.bool false))
 (U.asVar true 6 x1 fun e120 => (E 124 [e120]).bind fun t121 => (E 342 [t121]).bind fun t122 => if storable (.val t122) = true ∧ t122.size = 6 then U.asVar true 6 t122 fun e123 => (E 125 [e123, (.agg [(.bool b12), (.agg [(.sl 1 us18)]), (.sl 9 us21), (.sl 2 us24), (.sl 2 us27), (.int .i64 n30)])]).bind fun t124 => U.asFlat t124 fun t125 => (U.un .not t125).bind fun t126 => U.asBool t126
 (some (.bool false))
 ((E 319 [(.agg [(.bool b61), (.agg [(.sl 1 ys106)]), (.sl 9 ys109), (.sl 2 ys112), (.sl 2 ys115), (.int .i64 n79)]), (.int .i64 1)]).bind fun t127 => U.asFlat t127 fun t128 => (U.bin .lss t128 (.int .i64 0)).bind fun t129 => U.asBool t129
 (some (.bool false))
 ((U.bin .neq t128 y114).bind fun t130 => U.asBool t130
 (some (.bool false))
 (some (.bool true)))) else none)) else none else none else none)) else none else none else none)))))))))))))))))))))))))))))))))))) := (h.is _ rfl).trans ((Qe rfl).trans (by kernel_rfl))
def f79_b0 : AC :=
 (.seq (.seq (rg [oo 16 (.mv (.t 6)),
  oo 17 (.mv (.t 0)),
  oo 18 (.len false (.t 17)),
  oo 19 (.bin .lss (.t 16) (.t 18))])
 (.cond (.t 19) .skip (.exit 0)))
 (.seq (.block 1 (.seq (rg [oo 22 (.mv (.t 0)),
  oo 23 (.mv (.t 6)),
  oo 24 (.iaddr 9 (.t 22) (.t 23)),
  oo 25 (.load true 9 (.t 24)),
  oo 7 (.alloc 7 (.agg [(.int .i64 0), (.int .i64 0), (.int .i64 0), (.int .i64 0), (.int .i64 0), (.int .i64 0), (.int .i64 0), (.nsl 2), (.nsl 2)])),
  ⟨none, .store 9 (.t 7) (.t 25), none⟩])
 (.seq (rg [oo 26 (.mv (.t 1)),
  oo 27 (.load true 9 (.t 7)),
  oo 28 (.callv false (.t 26) [(.t 27)]),
  oo 29 (.un .not (.t 28))])
 (.cond (.t 29) (.seq (rg [oo 30 (.mv (.t 0)),
  oo 31 (.mv (.t 5)),
  oo 32 (.load true 9 (.t 7)),
  oo 33 (.iaddr 9 (.t 30) (.t 31)),
  ⟨none, .store 9 (.t 33) (.t 32), none⟩])
 (rg [oo 34 (.mv (.t 5)),
  oo 35 (.bin .add (.t 34) (ci 1)),
  oo 5 (.mv (.t 35))])) .skip))))
 (rg [oo 20 (.mv (.t 6)),
  oo 21 (.bin .add (.t 20) (ci 1)),
  oo 6 (.mv (.t 21))])))
def f79_r0 : AC :=
 (.seq (rg [oo 36 (.mv (.t 0)),
  oo 37 (.mv (.t 5)),
  oo 38 (.slice false 9 (.t 36) (some (.t 37)) none),
  ⟨none, .clear 9 (.agg [(.int .i64 0), (.int .i64 0), (.int .i64 0), (.int .i64 0), (.int .i64 0), (.int .i64 0), (.int .i64 0), (.nsl 2), (.nsl 2)]) (.t 38), none⟩])
 (.seq (rg [oo 39 (.mv (.t 0)),
  oo 40 (.mv (.t 5)),
  oo 41 (.sliceO 41 9 (.t 39) (.t 40)),
  oo 4 (.mv (.t 41))])
 .ret))
def f79_ac : AC :=
 (.seq (rg [oo 4 (.mv (.c (.nsl 9)))])
 (.seq (rg [oo 8 (.mv (.t 0)),
  oo 9 (.mv (.t 1)),
  oo 10 (.call false 172 [(.t 8), (.t 9)]),
  oo 5 (.mv (.t 10))])
 (.seq (.seq (rg [oo 11 (.mv (.t 5)),
  oo 12 (.bin .eql (.t 11) (ci (-1)))])
 (.cond (.t 12) (.seq (rg [oo 13 (.mv (.t 0)),
  oo 4 (.mv (.t 13))])
 .ret) .skip))
 (.seq (.seq (rg [oo 14 (.mv (.t 5)),
  oo 15 (.bin .add (.t 14) (ci 1)),
  oo 6 (.mv (.t 15))])
 (.block 0 (.loop ⟨[0, 1, 5, 6], [], [(5000, false)]⟩ f79_b0)))
 f79_r0))))
noncomputable def f79_l0 (E : Env) (x1 : U) (x5 : U) (x6 : U) (b5000 : List U) : Option U := loopK (roundOf E ⟨[0, 1, 5, 6], [], [(5000, false)]⟩ f79_b0 (blockK 0 (seqK (fun s => exec E f79_r0 s (finishF [(4, none)])) (finishF [(4, none)])))) ([.ref 5000 [] 9 none, .val x1, .val x5, .val x6], [.vir (.own (.sl 9 b5000))])
theorem Qlr (E : Env) (x1 : U) (x5 : U) (x6 : U) (b5000 : List U) : f79_l0 E x1 x5 x6 b5000 =
 (U.bin .lss x6 (.int .i64 (b5000.length : Int))).bind fun t5 => U.asBool t5
 (U.asInt x6 fun n6 => if 9 = 9 ∧ 0 ≤ n6 ∧ n6 < (b5000.length : Int) then (b5000[(n6 : Int).toNat]?).bind fun e7 => U.asVar true 9 e7 fun e8 => if (e8 : U).flat = true then if storable (.val e8) = true ∧ e8.size = 9 then U.asVar true 9 e8 fun e9 => U.asFn x1 fun r10 caps11 => (E r10 ([e9] ++ caps11)).bind fun t12 => (U.un .not t12).bind fun t13 => U.asBool t13
 (U.asVar true 9 e8 fun e14 => U.asInt x5 fun n15 => if 9 = 9 ∧ 0 ≤ n15 ∧ n15 < (b5000.length : Int) then if storable (.val e14) = true ∧ e14.size = 9 then (b5000[(n15 : Int).toNat]?).bind fun e16 => if e16.size = 9 then if (e14 : U).flat = true then (U.bin .add x5 (.int .i64 1)).bind fun t17 => (U.bin .add x6 (.int .i64 1)).bind fun t18 => f79_l0 E x1 t17 t18 (b5000.set (n15 : Int).toNat e14) else none else none else none else none)
 ((U.bin .add x6 (.int .i64 1)).bind fun t19 => f79_l0 E x1 x5 t19 b5000) else none else none else none)
 (U.asInt x5 fun n20 => if false = false ∧ 9 = 9 ∧ 0 ≤ (n20) ∧ (n20) ≤ ((b5000.length : Nat) : Int) ∧ ((b5000.length : Nat) : Int) ≤ ((b5000.length : Nat) : Int) then if 9 = 9 ∧ ((.agg [(.int .i64 0), (.int .i64 0), (.int .i64 0), (.int .i64 0), (.int .i64 0), (.int .i64 0), (.int .i64 0), (.nsl 2), (.nsl 2)]) : U).size = 9 ∧ 0 < 9 ∧ ((.agg [(.int .i64 0), (.int .i64 0), (.int .i64 0), (.int .i64 0), (.int .i64 0), (.int .i64 0), (.int .i64 0), (.nsl 2), (.nsl 2)]) : U).flat = true ∧ U.flat.flats b5000 = true ∧ ((n20) : Int).toNat + ((((b5000.length : Nat) : Int) : Int).toNat - ((n20) : Int).toNat) ≤ ((b5000 : List U)).length then U.asInt x5 fun n21 => if 0 ≤ (n21 : Int) ∧ (n21 : Int) ≤ (((((b5000 : List U)).take ((n20) : Int).toNat ++ List.replicate ((((b5000.length : Nat) : Int) : Int).toNat - ((n20) : Int).toNat) (.agg [(.int .i64 0), (.int .i64 0), (.int .i64 0), (.int .i64 0), (.int .i64 0), (.int .i64 0), (.int .i64 0), (.nsl 2), (.nsl 2)]) ++ ((b5000 : List U)).drop (((n20) : Int).toNat + ((((b5000.length : Nat) : Int) : Int).toNat - ((n20) : Int).toNat))) : List U)).length then some (.sl 9 ((((((b5000 : List U)).take ((n20) : Int).toNat ++ List.replicate ((((b5000.length : Nat) : Int) : Int).toNat - ((n20) : Int).toNat) (.agg [(.int .i64 0), (.int .i64 0), (.int .i64 0), (.int .i64 0), (.int .i64 0), (.int .i64 0), (.int .i64 0), (.nsl 2), (.nsl 2)]) ++ ((b5000 : List U)).drop (((n20) : Int).toNat + ((((b5000.length : Nat) : Int) : Int).toNat - ((n20) : Int).toNat))) : List U)).take (n21 : Int).toNat)) else none else none else none) := (Qf E _ _ _ _).trans (by kernel_rfl)
structure G_f79 (E : Env) : Prop where
  is : Is E 300346 2 f79_ac [(4, none)]
  c_f80 : G_f80 E
theorem f79_E {E : Env} (h : G_f79 E) (xs0 : List U) (a1 : U) : E 300346 (.agg [.tup [.sl 9 xs0]] :: [a1]) =
 (E 172 [(.sl 9 xs0), a1]).bind fun t1 => U.asFlat t1 fun t2 => (U.bin .eql t2 (.int .i64 (-1))).bind fun t3 => U.asBool t3
 (some (.sl 9 xs0))
 ((U.bin .add t2 (.int .i64 1)).bind fun t4 => f79_l0 E a1 t2 t4 xs0) := (h.is _ rfl).trans ((Qxz rfl).trans (by kernel_rfl))
end Go.Proofs.Ytboenehajoaahaa.Am

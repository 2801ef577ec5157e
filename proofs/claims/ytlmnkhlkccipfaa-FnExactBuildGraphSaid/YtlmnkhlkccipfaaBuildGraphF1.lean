import Derived.KernelRfl
import Derived.Test.YtlmnkhlkccipfaaBuildGraphF0
import Derived.Test.YtlmnkhlkccipfaaAmSo
import Derived.Test.YtlmnkhlkccipfaaAmW
namespace Go.Proofs.Ytlmnkhlkccipfaa.Am
open Go
set_option linter.unusedVariables false
set_option maxRecDepth 100000
def f19_b2 : AC :=
 (.seq (rg [oo 23 (.bin .lss (.t 22) (.t 21))])
 (.seq (.cond (.t 23) .skip (.exit 2))
 (.seq (.block 3 (.seq (rg [oo 24 (.iaddr 2 (.t 20) (.t 22)),
  oo 25 (.load true 2 (.t 24)),
  oo 8 (.alloc 8 (.agg [(.int .i64 0), (.int .i64 0)])),
  ⟨none, .store 2 (.t 8) (.t 25), none⟩])
 (.seq (.region 8 [oo 26 (.mv (.t 4)),
  oo 27 (.mv (.t 0)),
  oo 28 (.load true 2 (.t 8)),
  oo 29 (.call false 249 [(.t 27), (.t 28)]),
  oo 30 (.faddr 0 0 (.t 6)),
  oo 31 (.load false 1 (.t 30)),
  oo 32 (.faddr 0 0 (.t 8)),
  oo 33 (.load false 1 (.t 32)),
  oo 34 (.callL (.sl 4) 363 (.t 26) [(.t 29), (.t 31), (ci 1), (.t 33)])])
 (.region 11 [oo 35 (.mv (.t 4)),
  oo 36 (.faddr 0 0 (.t 6)),
  oo 37 (.load false 1 (.t 36)),
  oo 38 (.mv (.t 0)),
  oo 39 (.faddr 0 0 (.t 8)),
  oo 40 (.load false 1 (.t 39)),
  oo 41 (.faddr 1 1 (.t 8)),
  oo 42 (.load false 1 (.t 41)),
  oo 43 (.call false 47 [(.t 38), (.t 40), (.t 42)]),
  oo 44 (.faddr 0 0 (.t 8)),
  oo 45 (.load false 1 (.t 44)),
  oo 46 (.callL (.sl 4) 363 (.t 35) [(.t 37), (.t 43), (ci 3), (.t 45)])]))))
 (rg [oo 47 (.bin .add (.t 22) (ci 1)),
  oo 22 (.mv (.t 47))]))))
def f19_b1 : AC :=
 (.seq (rg [oo 52 (.bin .lss (.t 51) (.t 50))])
 (.seq (.cond (.t 52) .skip (.exit 4))
 (.seq (.block 5 (.seq (rg [oo 53 (.iaddr 2 (.t 49) (.t 51)),
  oo 54 (.load true 2 (.t 53)),
  oo 10 (.alloc 10 (.agg [(.int .i64 0), (.int .i64 0)])),
  ⟨none, .store 2 (.t 10) (.t 54), none⟩])
 (.region 11 [oo 55 (.mv (.t 4)),
  oo 56 (.faddr 0 0 (.t 6)),
  oo 57 (.load false 1 (.t 56)),
  oo 58 (.mv (.t 0)),
  oo 59 (.faddr 0 0 (.t 10)),
  oo 60 (.load false 1 (.t 59)),
  oo 61 (.faddr 1 1 (.t 6)),
  oo 62 (.load false 1 (.t 61)),
  oo 63 (.call false 47 [(.t 58), (.t 60), (.t 62)]),
  oo 64 (.faddr 0 0 (.t 10)),
  oo 65 (.load false 1 (.t 64)),
  oo 66 (.callL (.sl 4) 363 (.t 55) [(.t 57), (.t 63), (ci 2), (.t 65)])])))
 (rg [oo 67 (.bin .add (.t 51) (ci 1)),
  oo 51 (.mv (.t 67))]))))
def f19_r0 : AC :=
 (.seq (rg [oo 48 (.faddr 3 3 (.t 6)),
  oo 49 (.load false 1 (.t 48)),
  oo 50 (.len false (.t 49)),
  oo 51 (.mv (ci 0))])
 (.block 4 (.loop ⟨[0, 3, 4, 6, 13, 14, 15, 49, 50, 51], [], [(3, true), (6, false)]⟩ f19_b1)))
def f19_r1 : AC :=
 (rg [oo 68 (.bin .add (.t 15) (ci 1)),
  oo 15 (.mv (.t 68))])
def f19_b0 : AC :=
 (.seq (rg [oo 16 (.bin .lss (.t 15) (.t 14))])
 (.seq (.cond (.t 16) .skip (.exit 0))
 (.seq (.block 1 (.seq (rg [oo 17 (.iaddr 4 (.t 13) (.t 15)),
  oo 18 (.load true 4 (.t 17)),
  oo 6 (.alloc 6 (.agg [(.int .i64 0), (.int .i64 0), (.nsl 2), (.nsl 2)])),
  ⟨none, .store 4 (.t 6) (.t 18), none⟩])
 (.seq (.seq (rg [oo 19 (.faddr 2 2 (.t 6)),
  oo 20 (.load false 1 (.t 19)),
  oo 21 (.len false (.t 20)),
  oo 22 (.mv (ci 0))])
 (.block 2 (.loop ⟨[0, 3, 4, 6, 13, 14, 15, 20, 21, 22], [], [(3, true), (6, false)]⟩ f19_b2)))
 f19_r0)))
 f19_r1)))
def f19_r2 : AC :=
 (.seq (rg [oo 69 (.loadO (.sl 4) (.t 3)),
  oo 70 (.callM 4 362 (.t 69) [(.c (.fn 12 []))])])
 (.seq (rg [oo 71 (.loadO (.sl 4) (.t 3)),
  oo 72 (.callC 72 4 361 (.t 71) []),
  oo 2 (.mv (.t 72))])
 .ret))
def f19_ac : AC :=
 (.seq (rg [oo 2 (.mv (.c (.nsl 4)))])
 (.seq (rg [oo 11 (.bslice 2 11 4 0 (.agg [(.int .i64 0), (.int .i64 0), (.int .i64 0), (.int .i64 0)]) []),
  oo 3 (.alloc 3 (.nsl 4)),
  ⟨none, .storeM 3000 1 (.t 3) (.t 11), none⟩])
 (.seq (rg [oo 12 (.mkfn 363 [(.t 3)]),
  oo 4 (.mv (.t 12))])
 (.seq (.seq (rg [oo 13 (.mv (.t 0)),
  oo 14 (.len false (.t 13)),
  oo 15 (.mv (ci 0))])
 (.block 0 (.loop ⟨[0, 3, 4, 13, 14, 15], [], [(3, true)]⟩ f19_b0)))
 f19_r2))))
noncomputable def f19_l0 (E : Env) (x0 : U) (x13 : U) (x14 : U) (x15 : U) (b3 : List U) : Option U := loopK (roundOf E ⟨[0, 3, 4, 13, 14, 15], [], [(3, true)]⟩ f19_b0 (blockK 0 (seqK (fun s => exec E f19_r2 s (finishF [(2, none)])) (finishF [(2, none)])))) ([.val x0, .ptr 3 [], .fnv 363 [.ptr 3 []], .val x13, .val x14, .val x15], [.box (.own (.sl 4 b3))])
noncomputable def f19_l2 (E : Env) (x0 : U) (x13 : U) (x14 : U) (x15 : U) (x20 : U) (x21 : U) (x22 : U) (b3 : List U) (b6 : U) : Option U := loopK (roundOf E ⟨[0, 3, 4, 6, 13, 14, 15, 20, 21, 22], [], [(3, true), (6, false)]⟩ f19_b2 (blockK 2 (seqK (fun s => exec E f19_r0 s (blockK 1 (seqK (fun s => exec E f19_r1 s (roundK ⟨[0, 3, 4, 13, 14, 15], [], [(3, true)]⟩ (loopK (roundOf E ⟨[0, 3, 4, 13, 14, 15], [], [(3, true)]⟩ f19_b0 (blockK 0 (seqK (fun s => exec E f19_r2 s (finishF [(2, none)])) (finishF [(2, none)]))))) (blockK 0 (seqK (fun s => exec E f19_r2 s (finishF [(2, none)])) (finishF [(2, none)]))))) (roundK ⟨[0, 3, 4, 13, 14, 15], [], [(3, true)]⟩ (loopK (roundOf E ⟨[0, 3, 4, 13, 14, 15], [], [(3, true)]⟩ f19_b0 (blockK 0 (seqK (fun s => exec E f19_r2 s (finishF [(2, none)])) (finishF [(2, none)]))))) (blockK 0 (seqK (fun s => exec E f19_r2 s (finishF [(2, none)])) (finishF [(2, none)]))))))) (blockK 1 (seqK (fun s => exec E f19_r1 s (roundK ⟨[0, 3, 4, 13, 14, 15], [], [(3, true)]⟩ (loopK (roundOf E ⟨[0, 3, 4, 13, 14, 15], [], [(3, true)]⟩ f19_b0 (blockK 0 (seqK (fun s => exec E f19_r2 s (finishF [(2, none)])) (finishF [(2, none)]))))) (blockK 0 (seqK (fun s => exec E f19_r2 s (finishF [(2, none)])) (finishF [(2, none)]))))) (roundK ⟨[0, 3, 4, 13, 14, 15], [], [(3, true)]⟩ (loopK (roundOf E ⟨[0, 3, 4, 13, 14, 15], [], [(3, true)]⟩ f19_b0 (blockK 0 (seqK (fun s => exec E f19_r2 s (finishF [(2, none)])) (finishF [(2, none)]))))) (blockK 0 (seqK (fun s => exec E f19_r2 s (finishF [(2, none)])) (finishF [(2, none)]))))))))) ([.val x0, .ptr 3 [], .fnv 363 [.ptr 3 []], .ptr 6 [], .val x13, .val x14, .val x15, .val x20, .val x21, .val x22], [.box (.own (.sl 4 b3)), .box (.val b6)])
noncomputable def f19_l1 (E : Env) (x0 : U) (x13 : U) (x14 : U) (x15 : U) (x49 : U) (x50 : U) (x51 : U) (b3 : List U) (b6 : U) : Option U := loopK (roundOf E ⟨[0, 3, 4, 6, 13, 14, 15, 49, 50, 51], [], [(3, true), (6, false)]⟩ f19_b1 (blockK 4 (blockK 1 (seqK (fun s => exec E f19_r1 s (roundK ⟨[0, 3, 4, 13, 14, 15], [], [(3, true)]⟩ (loopK (roundOf E ⟨[0, 3, 4, 13, 14, 15], [], [(3, true)]⟩ f19_b0 (blockK 0 (seqK (fun s => exec E f19_r2 s (finishF [(2, none)])) (finishF [(2, none)]))))) (blockK 0 (seqK (fun s => exec E f19_r2 s (finishF [(2, none)])) (finishF [(2, none)]))))) (roundK ⟨[0, 3, 4, 13, 14, 15], [], [(3, true)]⟩ (loopK (roundOf E ⟨[0, 3, 4, 13, 14, 15], [], [(3, true)]⟩ f19_b0 (blockK 0 (seqK (fun s => exec E f19_r2 s (finishF [(2, none)])) (finishF [(2, none)]))))) (blockK 0 (seqK (fun s => exec E f19_r2 s (finishF [(2, none)])) (finishF [(2, none)])))))))) ([.val x0, .ptr 3 [], .fnv 363 [.ptr 3 []], .ptr 6 [], .val x13, .val x14, .val x15, .val x49, .val x50, .val x51], [.box (.own (.sl 4 b3)), .box (.val b6)])
theorem f19_l0_eq (E : Env) (x0 : U) (x13 : U) (x14 : U) (x15 : U) (b3 : List U) : f19_l0 E x0 x13 x14 x15 b3 =
 (U.bin .lss x15 x14).bind fun t2 => U.asBool t2
 (U.asInt x15 fun n3 => U.elemAt 4 x13 n3 fun e4 => U.asVar true 4 e4 fun e5 => if storable (.val e5) = true ∧ e5.size = 4 then U.asAgg e5 fun us6 => if 2 = sizes (us6.take 2) then (us6[2]?).bind fun e7 => U.asVar false 1 e7 fun e8 => (U.lenOf false e8).bind fun n9 => f19_l2 E x0 x13 x14 x15 e8 (.int .i64 (n9 : Int)) (.int .i64 0) b3 e5 else none else none)
 ((E 200362 (.agg [.tup [.sl 4 b3]] :: [(.fn 12 [])])).bind fun t10 => U.asMut 4 t10 fun y11 ys12 => U.asFlat y11 fun y11 => (E 300361 (.agg [.tup [.sl 4 ys12]] :: [])).bind fun t13 => U.asSlK 4 t13 fun us14 => some (.sl 4 us14)) :=
 (loop_eq E _ _ _ _).trans (by kernel_rfl)
theorem f19_l2_eq (E : Env) (x0 : U) (x13 : U) (x14 : U) (x15 : U) (x20 : U) (x21 : U) (x22 : U) (b3 : List U) (b6 : U) : f19_l2 E x0 x13 x14 x15 x20 x21 x22 b3 b6 =
 (U.bin .lss x22 x21).bind fun t15 => U.asBool t15
 (U.asInt x22 fun n16 => U.elemAt 2 x20 n16 fun e17 => U.asVar true 2 e17 fun e18 => if storable (.val e18) = true ∧ e18.size = 2 then U.asVar true 2 e18 fun e19 => (E 249 [x0, e19]).bind fun t20 => U.asAgg b6 fun us21 => if 0 = sizes (us21.take 0) then (us21[0]?).bind fun e22 => U.asVar false 1 e22 fun e23 => U.asAgg e18 fun us24 => if 0 = sizes (us24.take 0) then (us24[0]?).bind fun e25 => U.asVar false 1 e25 fun e26 => (E 500363 (.agg [.tup [(.sl 4 b3)]] :: [t20, e23, (.int .i64 1), e26])).bind fun t27 => U.asPtr t27 fun y28 z29 => U.asSlK 4 z29 fun us30 => U.asAgg b6 fun us31 => if 0 = sizes (us31.take 0) then (us31[0]?).bind fun e32 => U.asVar false 1 e32 fun e33 => U.asAgg e18 fun us34 => if 0 = sizes (us34.take 0) then (us34[0]?).bind fun e35 => U.asVar false 1 e35 fun e36 => U.asAgg e18 fun us37 => if 1 = sizes (us37.take 1) then (us37[1]?).bind fun e38 => U.asVar false 1 e38 fun e39 => (E 47 [x0, e36, e39]).bind fun t40 => U.asAgg e18 fun us41 => if 0 = sizes (us41.take 0) then (us41[0]?).bind fun e42 => U.asVar false 1 e42 fun e43 => (E 500363 (.agg [.tup [(.sl 4 us30)]] :: [e33, t40, (.int .i64 3), e43])).bind fun t44 => U.asPtr t44 fun y45 z46 => U.asSlK 4 z46 fun us47 => (U.bin .add x22 (.int .i64 1)).bind fun t48 => f19_l2 E x0 x13 x14 x15 x20 x21 t48 us47 b6 else none else none else none else none else none else none else none)
 (U.asAgg b6 fun us49 => if 3 = sizes (us49.take 3) then (us49[3]?).bind fun e50 => U.asVar false 1 e50 fun e51 => (U.lenOf false e51).bind fun n52 => f19_l1 E x0 x13 x14 x15 e51 (.int .i64 (n52 : Int)) (.int .i64 0) b3 b6 else none) :=
 (loop_eq E _ _ _ _).trans (by kernel_rfl)
theorem f19_l1_eq (E : Env) (x0 : U) (x13 : U) (x14 : U) (x15 : U) (x49 : U) (x50 : U) (x51 : U) (b3 : List U) (b6 : U) : f19_l1 E x0 x13 x14 x15 x49 x50 x51 b3 b6 =
 (U.bin .lss x51 x50).bind fun t53 => U.asBool t53
 (U.asInt x51 fun n54 => U.elemAt 2 x49 n54 fun e55 => U.asVar true 2 e55 fun e56 => if storable (.val e56) = true ∧ e56.size = 2 then U.asAgg b6 fun us57 => if 0 = sizes (us57.take 0) then (us57[0]?).bind fun e58 => U.asVar false 1 e58 fun e59 => U.asAgg e56 fun us60 => if 0 = sizes (us60.take 0) then (us60[0]?).bind fun e61 => U.asVar false 1 e61 fun e62 => U.asAgg b6 fun us63 => if 1 = sizes (us63.take 1) then (us63[1]?).bind fun e64 => U.asVar false 1 e64 fun e65 => (E 47 [x0, e62, e65]).bind fun t66 => U.asAgg e56 fun us67 => if 0 = sizes (us67.take 0) then (us67[0]?).bind fun e68 => U.asVar false 1 e68 fun e69 => (E 500363 (.agg [.tup [(.sl 4 b3)]] :: [e59, t66, (.int .i64 2), e69])).bind fun t70 => U.asPtr t70 fun y71 z72 => U.asSlK 4 z72 fun us73 => (U.bin .add x51 (.int .i64 1)).bind fun t74 => f19_l1 E x0 x13 x14 x15 x49 x50 t74 us73 b6 else none else none else none else none else none)
 ((U.bin .add x15 (.int .i64 1)).bind fun t75 => f19_l0 E x0 x13 x14 t75 b3) :=
 (loop_eq E _ _ _ _).trans (by kernel_rfl)
structure G_f19 (E : Env) : Prop where
  is : Is E 100357 1 f19_ac [(2, none)]
  c_f12 : G_f12 E
  c_f11 : G_f11 E
  c_f15 : G_f15 E
  c_f54 : G_f54 E
  c_f18 : G_f18 E
  c_slices_SortFunc_g362 : IsSort E 362 12
theorem f19_E {E : Env} (h : G_f19 E) (a0 : U) : E 100357 [a0] =
 (U.lenOf false a0).bind fun n1 => f19_l0 E a0 a0 (.int .i64 (n1 : Int)) (.int .i64 0) [] := (h.is _ rfl).trans ((runQ_F rfl).trans (by kernel_rfl))
def f4_ac : AC :=
 (.seq (rg [oo 2 (.mv (.c (.nsl 4)))])
 (.seq (.seq (rg [oo 3 (.mv (.t 0)),
  oo 4 (.call false 247 [(.t 3)]),
  oo 5 (.un .not (.t 4))])
 (.cond (.t 5) (.seq (rg [oo 2 (.mv (.c (.nsl 4)))])
 .ret) .skip))
 (.seq (rg [oo 6 (.mv (.t 0)),
  oo 7 (.callF 7 false [(.sl 4)] 357 [(.t 6)]),
  oo 2 (.mv (.t 7))])
 .ret)))
structure G_f4 (E : Env) : Prop where
  is : Is E 100408 1 f4_ac [(2, none)]
  c_f9 : G_f9 E
  c_f19 : G_f19 E
theorem f4_E {E : Env} (h : G_f4 E) (a0 : U) : E 100408 [a0] =
 (E 247 [a0]).bind fun t1 => (U.un .not t1).bind fun t2 => U.asBool t2
 (some (.sl 4 []))
 ((E 100357 [a0]).bind fun t3 => U.noTup t3 fun x4 => U.asSlK 4 x4 fun us5 => some (.sl 4 us5)) := (h.is _ rfl).trans ((runQ_F rfl).trans (by kernel_rfl))
def f38_b0 : AC :=
 (.seq (.seq (rg [oo 6 (.mv (.t 5)),
  oo 7 (.mv (.t 0)),
  oo 8 (.len false (.t 7)),
  oo 9 (.bin .lss (.t 6) (.t 8))])
 (.cond (.t 9) .skip (.exit 0)))
 (.seq (.block 1 (.seq (rg [oo 12 (.mv (.t 0)),
  oo 13 (.mv (.t 5)),
  oo 14 (.mv (.t 1)),
  oo 15 (.iaddr 2 (.t 12) (.t 13)),
  oo 16 (.faddr 0 0 (.t 15)),
  ⟨none, .store 1 (.t 16) (.t 14), none⟩])
 (.seq (rg [oo 17 (.mv (.t 1)),
  oo 18 (.bin .add (.t 17) (ci 1)),
  oo 1 (.mv (.t 18))])
 (.seq (rg [oo 19 (.mv (.t 0)),
  oo 20 (.mv (.t 5)),
  oo 21 (.mv (.t 1)),
  oo 22 (.iaddr 2 (.t 19) (.t 20)),
  oo 23 (.faddr 1 1 (.t 22)),
  ⟨none, .store 1 (.t 23) (.t 21), none⟩])
 (rg [oo 24 (.mv (.t 1)),
  oo 25 (.bin .add (.t 24) (ci 1)),
  oo 1 (.mv (.t 25))])))))
 (rg [oo 10 (.mv (.t 5)),
  oo 11 (.bin .add (.t 10) (ci 1)),
  oo 5 (.mv (.t 11))])))
def f38_r0 : AC :=
 (.seq (rg [oo 26 (.mv (.t 1)),
  oo 4 (.mv (.t 26))])
 .ret)
def f38_ac : AC :=
 (.seq (rg [oo 4 (.mv (ci 0))])
 (.seq (.seq (rg [oo 5 (.mv (ci 0))])
 (.block 0 (.loop ⟨[0, 1, 5], [], [(5000, true)]⟩ f38_b0)))
 f38_r0))
noncomputable def f38_l0 (E : Env) (x1 : U) (x5 : U) (b5000 : List U) : Option U := loopK (roundOf E ⟨[0, 1, 5], [], [(5000, true)]⟩ f38_b0 (blockK 0 (seqK (fun s => exec E f38_r0 s (finishM 2 [(4, none)])) (finishM 2 [(4, none)])))) ([.ref 5000 [] 2 none, .val x1, .val x5], [.vir (.own (.sl 2 b5000))])
theorem f38_l0_eq (E : Env) (x1 : U) (x5 : U) (b5000 : List U) : f38_l0 E x1 x5 b5000 =
 (U.bin .lss x5 (.int .i64 (b5000.length : Int))).bind fun t1 => U.asBool t1
 (U.asInt x5 fun n2 => if 2 = 2 ∧ 0 ≤ n2 ∧ n2 < (b5000.length : Int) then if storable (.val x1) = true ∧ x1.size = 1 then (b5000[(n2 : Int).toNat]?).bind fun e3 => U.asAgg e3 fun us4 => if 0 = sizes (us4.take 0) then (us4[0]?).bind fun e5 => if e5.size = 1 then if (x1 : U).flat = true then (U.bin .add x1 (.int .i64 1)).bind fun t6 => U.asInt x5 fun n7 => if 2 = 2 ∧ 0 ≤ n7 ∧ n7 < (((b5000.set (n2 : Int).toNat (.agg (us4.set 0 x1)))).length : Int) then if storable (.val t6) = true ∧ t6.size = 1 then ((b5000.set (n2 : Int).toNat (.agg (us4.set 0 x1)))[(n7 : Int).toNat]?).bind fun e8 => U.asAgg e8 fun us9 => if 1 = sizes (us9.take 1) then (us9[1]?).bind fun e10 => if e10.size = 1 then if (t6 : U).flat = true then (U.bin .add t6 (.int .i64 1)).bind fun t11 => (U.bin .add x5 (.int .i64 1)).bind fun t12 => f38_l0 E t11 t12 ((b5000.set (n2 : Int).toNat (.agg (us4.set 0 x1))).set (n7 : Int).toNat (.agg (us9.set 1 t6))) else none else none else none else none else none else none else none else none else none else none)
 (if (x1 : U).flat = true then some (.tup [x1, .sl 2 b5000]) else none) :=
 (loop_eq E _ _ _ _).trans (by kernel_rfl)
structure G_f38 (E : Env) : Prop where
  is : Is E 200095 2 f38_ac [(4, none)]
theorem f38_E {E : Env} (h : G_f38 E) (xs0 : List U) (a1 : U) : E 200095 (.agg [.tup [.sl 2 xs0]] :: [a1]) =
 f38_l0 E a1 (.int .i64 0) xs0 := (h.is _ rfl).trans ((runQ_M rfl).trans (by kernel_rfl))
def f39_b0 : AC :=
 (.seq (.seq (rg [oo 6 (.mv (.t 5)),
  oo 7 (.mv (.t 0)),
  oo 8 (.len false (.t 7)),
  oo 9 (.bin .lss (.t 6) (.t 8))])
 (.cond (.t 9) .skip (.exit 0)))
 (.seq (.block 1 (.seq (rg [oo 12 (.mv (.t 0)),
  oo 13 (.mv (.t 5)),
  oo 14 (.mv (.t 1)),
  oo 15 (.iaddr 2 (.t 12) (.t 13)),
  oo 16 (.faddr 0 0 (.t 15)),
  ⟨none, .store 1 (.t 16) (.t 14), none⟩])
 (.seq (rg [oo 17 (.mv (.t 1)),
  oo 18 (.bin .add (.t 17) (ci 1)),
  oo 1 (.mv (.t 18))])
 (.seq (rg [oo 19 (.mv (.t 0)),
  oo 20 (.mv (.t 5)),
  oo 21 (.mv (.t 1)),
  oo 22 (.iaddr 2 (.t 19) (.t 20)),
  oo 23 (.faddr 1 1 (.t 22)),
  ⟨none, .store 1 (.t 23) (.t 21), none⟩])
 (rg [oo 24 (.mv (.t 1)),
  oo 25 (.bin .add (.t 24) (ci 1)),
  oo 1 (.mv (.t 25))])))))
 (rg [oo 10 (.mv (.t 5)),
  oo 11 (.bin .add (.t 10) (ci 1)),
  oo 5 (.mv (.t 11))])))
def f39_r0 : AC :=
 (.seq (rg [oo 26 (.mv (.t 1)),
  oo 4 (.mv (.t 26))])
 .ret)
def f39_ac : AC :=
 (.seq (rg [oo 4 (.mv (ci 0))])
 (.seq (.seq (rg [oo 5 (.mv (ci 0))])
 (.block 0 (.loop ⟨[0, 1, 5], [], [(5000, true)]⟩ f39_b0)))
 f39_r0))
noncomputable def f39_l0 (E : Env) (x1 : U) (x5 : U) (b5000 : List U) : Option U := loopK (roundOf E ⟨[0, 1, 5], [], [(5000, true)]⟩ f39_b0 (blockK 0 (seqK (fun s => exec E f39_r0 s (finishM 2 [(4, none)])) (finishM 2 [(4, none)])))) ([.ref 5000 [] 2 none, .val x1, .val x5], [.vir (.own (.sl 2 b5000))])
theorem f39_l0_eq (E : Env) (x1 : U) (x5 : U) (b5000 : List U) : f39_l0 E x1 x5 b5000 =
 (U.bin .lss x5 (.int .i64 (b5000.length : Int))).bind fun t1 => U.asBool t1
 (U.asInt x5 fun n2 => if 2 = 2 ∧ 0 ≤ n2 ∧ n2 < (b5000.length : Int) then if storable (.val x1) = true ∧ x1.size = 1 then (b5000[(n2 : Int).toNat]?).bind fun e3 => U.asAgg e3 fun us4 => if 0 = sizes (us4.take 0) then (us4[0]?).bind fun e5 => if e5.size = 1 then if (x1 : U).flat = true then (U.bin .add x1 (.int .i64 1)).bind fun t6 => U.asInt x5 fun n7 => if 2 = 2 ∧ 0 ≤ n7 ∧ n7 < (((b5000.set (n2 : Int).toNat (.agg (us4.set 0 x1)))).length : Int) then if storable (.val t6) = true ∧ t6.size = 1 then ((b5000.set (n2 : Int).toNat (.agg (us4.set 0 x1)))[(n7 : Int).toNat]?).bind fun e8 => U.asAgg e8 fun us9 => if 1 = sizes (us9.take 1) then (us9[1]?).bind fun e10 => if e10.size = 1 then if (t6 : U).flat = true then (U.bin .add t6 (.int .i64 1)).bind fun t11 => (U.bin .add x5 (.int .i64 1)).bind fun t12 => f39_l0 E t11 t12 ((b5000.set (n2 : Int).toNat (.agg (us4.set 0 x1))).set (n7 : Int).toNat (.agg (us9.set 1 t6))) else none else none else none else none else none else none else none else none else none else none)
 (if (x1 : U).flat = true then some (.tup [x1, .sl 2 b5000]) else none) :=
 (loop_eq E _ _ _ _).trans (by kernel_rfl)
structure G_f39 (E : Env) : Prop where
  is : Is E 200232 2 f39_ac [(4, none)]
theorem f39_E {E : Env} (h : G_f39 E) (xs0 : List U) (a1 : U) : E 200232 (.agg [.tup [.sl 2 xs0]] :: [a1]) =
 f39_l0 E a1 (.int .i64 0) xs0 := (h.is _ rfl).trans ((runQ_M rfl).trans (by kernel_rfl))
def f37_b0 : AC :=
 (.seq (.seq (rg [oo 6 (.mv (.t 5)),
  oo 7 (.mv (.t 0)),
  oo 8 (.len false (.t 7)),
  oo 9 (.bin .lss (.t 6) (.t 8))])
 (.cond (.t 9) .skip (.exit 0)))
 (.seq (.block 1 (.seq (rg [oo 12 (.mv (.t 0)),
  oo 13 (.mv (.t 5)),
  oo 14 (.mv (.t 1)),
  oo 15 (.iaddr 4 (.t 12) (.t 13)),
  oo 16 (.faddr 0 0 (.t 15)),
  ⟨none, .store 1 (.t 16) (.t 14), none⟩])
 (.seq (rg [oo 17 (.mv (.t 1)),
  oo 18 (.bin .add (.t 17) (ci 1)),
  oo 1 (.mv (.t 18))])
 (.seq (rg [oo 19 (.mv (.t 0)),
  oo 20 (.mv (.t 5)),
  oo 21 (.mv (.t 1)),
  oo 22 (.iaddr 4 (.t 19) (.t 20)),
  oo 23 (.faddr 1 1 (.t 22)),
  ⟨none, .store 1 (.t 23) (.t 21), none⟩])
 (.seq (rg [oo 24 (.mv (.t 1)),
  oo 25 (.bin .add (.t 24) (ci 1)),
  oo 1 (.mv (.t 25))])
 (.seq (rg [oo 26 (.mv (.t 0)),
  oo 27 (.mv (.t 5)),
  oo 28 (.iaddr 4 (.t 26) (.t 27)),
  oo 29 (.faddr 2 2 (.t 28)),
  oo 30 (.loadO (.sl 2) (.t 29)),
  oo 31 (.mv (.t 1)),
  oo 32 (.callM 2 95 (.t 30) [(.t 31)]),
  oo 1 (.mv (.t 32))])
 (rg [oo 33 (.mv (.t 0)),
  oo 34 (.mv (.t 5)),
  oo 35 (.iaddr 4 (.t 33) (.t 34)),
  oo 36 (.faddr 3 3 (.t 35)),
  oo 37 (.loadO (.sl 2) (.t 36)),
  oo 38 (.mv (.t 1)),
  oo 39 (.callM 2 232 (.t 37) [(.t 38)]),
  oo 1 (.mv (.t 39))])))))))
 (rg [oo 10 (.mv (.t 5)),
  oo 11 (.bin .add (.t 10) (ci 1)),
  oo 5 (.mv (.t 11))])))
def f37_r0 : AC :=
 (.seq (rg [oo 40 (.mv (.t 1)),
  oo 4 (.mv (.t 40))])
 .ret)
def f37_ac : AC :=
 (.seq (rg [oo 4 (.mv (ci 0))])
 (.seq (.seq (rg [oo 5 (.mv (ci 0))])
 (.block 0 (.loop ⟨[0, 1, 5], [], [(5000, true)]⟩ f37_b0)))
 f37_r0))
noncomputable def f37_l0 (E : Env) (x1 : U) (x5 : U) (b5000 : List U) : Option U := loopK (roundOf E ⟨[0, 1, 5], [], [(5000, true)]⟩ f37_b0 (blockK 0 (seqK (fun s => exec E f37_r0 s (finishM 4 [(4, none)])) (finishM 4 [(4, none)])))) ([.ref 5000 [] 4 none, .val x1, .val x5], [.vir (.own (.sl 4 b5000))])
theorem f37_l0_eq (E : Env) (x1 : U) (x5 : U) (b5000 : List U) : f37_l0 E x1 x5 b5000 =
 (U.bin .lss x5 (.int .i64 (b5000.length : Int))).bind fun t1 => U.asBool t1
 (U.asInt x5 fun n2 => if 4 = 4 ∧ 0 ≤ n2 ∧ n2 < (b5000.length : Int) then if storable (.val x1) = true ∧ x1.size = 1 then (b5000[(n2 : Int).toNat]?).bind fun e3 => U.asAgg e3 fun us4 => if 0 = sizes (us4.take 0) then (us4[0]?).bind fun e5 => if e5.size = 1 then if (x1 : U).flat = true then (U.bin .add x1 (.int .i64 1)).bind fun t6 => U.asInt x5 fun n7 => if 4 = 4 ∧ 0 ≤ n7 ∧ n7 < (((b5000.set (n2 : Int).toNat (.agg (us4.set 0 x1)))).length : Int) then if storable (.val t6) = true ∧ t6.size = 1 then ((b5000.set (n2 : Int).toNat (.agg (us4.set 0 x1)))[(n7 : Int).toNat]?).bind fun e8 => U.asAgg e8 fun us9 => if 1 = sizes (us9.take 1) then (us9[1]?).bind fun e10 => if e10.size = 1 then if (t6 : U).flat = true then (U.bin .add t6 (.int .i64 1)).bind fun t11 => U.asInt x5 fun n12 => if 4 = 4 ∧ 0 ≤ n12 ∧ n12 < ((((b5000.set (n2 : Int).toNat (.agg (us4.set 0 x1))).set (n7 : Int).toNat (.agg (us9.set 1 t6)))).length : Int) then (((b5000.set (n2 : Int).toNat (.agg (us4.set 0 x1))).set (n7 : Int).toNat (.agg (us9.set 1 t6)))[(n12 : Int).toNat]?).bind fun e13 => U.asAgg e13 fun us14 => if 2 = sizes (us14.take 2) then (us14[2]?).bind fun e15 => U.asSlK 2 e15 fun _ => (((b5000.set (n2 : Int).toNat (.agg (us4.set 0 x1))).set (n7 : Int).toNat (.agg (us9.set 1 t6)))[(n12 : Int).toNat]?).bind fun e16 => U.asAgg e16 fun us17 => if 2 = sizes (us17.take 2) then (us17[2]?).bind fun e18 => U.asSlK 2 e18 fun _ => U.asSlK 2 e18 fun us19 => (E 200095 (.agg [.tup [.sl 2 us19]] :: [t11])).bind fun t20 => U.asMut 2 t20 fun y21 ys22 => U.asFlat y21 fun y21 => (((b5000.set (n2 : Int).toNat (.agg (us4.set 0 x1))).set (n7 : Int).toNat (.agg (us9.set 1 t6)))[(n12 : Int).toNat]?).bind fun e23 => U.asAgg e23 fun us24 => if 2 = sizes (us24.take 2) then (us24[2]?).bind fun e25 => if e25.size = 1 then U.asInt x5 fun n26 => if 4 = 4 ∧ 0 ≤ n26 ∧ n26 < (((((b5000.set (n2 : Int).toNat (.agg (us4.set 0 x1))).set (n7 : Int).toNat (.agg (us9.set 1 t6))).set (n12 : Int).toNat (.agg (us24.set 2 (.sl 2 ys22))))).length : Int) then ((((b5000.set (n2 : Int).toNat (.agg (us4.set 0 x1))).set (n7 : Int).toNat (.agg (us9.set 1 t6))).set (n12 : Int).toNat (.agg (us24.set 2 (.sl 2 ys22))))[(n26 : Int).toNat]?).bind fun e27 => U.asAgg e27 fun us28 => if 3 = sizes (us28.take 3) then (us28[3]?).bind fun e29 => U.asSlK 2 e29 fun _ => ((((b5000.set (n2 : Int).toNat (.agg (us4.set 0 x1))).set (n7 : Int).toNat (.agg (us9.set 1 t6))).set (n12 : Int).toNat (.agg (us24.set 2 (.sl 2 ys22))))[(n26 : Int).toNat]?).bind fun e30 => U.asAgg e30 fun us31 => if 3 = sizes (us31.take 3) then (us31[3]?).bind fun e32 => U.asSlK 2 e32 fun _ => U.asSlK 2 e32 fun us33 => (E 200232 (.agg [.tup [.sl 2 us33]] :: [y21])).bind fun t34 => U.asMut 2 t34 fun y35 ys36 => U.asFlat y35 fun y35 => ((((b5000.set (n2 : Int).toNat (.agg (us4.set 0 x1))).set (n7 : Int).toNat (.agg (us9.set 1 t6))).set (n12 : Int).toNat (.agg (us24.set 2 (.sl 2 ys22))))[(n26 : Int).toNat]?).bind fun e37 => U.asAgg e37 fun us38 => if 3 = sizes (us38.take 3) then (us38[3]?).bind fun e39 => if e39.size = 1 then (U.bin .add x5 (.int .i64 1)).bind fun t40 => f37_l0 E y35 t40 ((((b5000.set (n2 : Int).toNat (.agg (us4.set 0 x1))).set (n7 : Int).toNat (.agg (us9.set 1 t6))).set (n12 : Int).toNat (.agg (us24.set 2 (.sl 2 ys22)))).set (n26 : Int).toNat (.agg (us38.set 3 (.sl 2 ys36)))) else none else none else none else none else none else none else none else none else none else none else none else none else none else none else none else none else none else none else none else none)
 (if (x1 : U).flat = true then some (.tup [x1, .sl 4 b5000]) else none) :=
 (loop_eq E _ _ _ _).trans (by kernel_rfl)
structure G_f37 (E : Env) : Prop where
  is : Is E 200287 2 f37_ac [(4, none)]
  c_f38 : G_f38 E
  c_f39 : G_f39 E
theorem f37_E {E : Env} (h : G_f37 E) (xs0 : List U) (a1 : U) : E 200287 (.agg [.tup [.sl 4 xs0]] :: [a1]) =
 f37_l0 E a1 (.int .i64 0) xs0 := (h.is _ rfl).trans ((runQ_M rfl).trans (by kernel_rfl))
def f36_b0 : AC :=
 (.seq (.seq (rg [oo 6 (.mv (.t 5)),
  oo 7 (.mv (.t 0)),
  oo 8 (.len false (.t 7)),
  oo 9 (.bin .lss (.t 6) (.t 8))])
 (.cond (.t 9) .skip (.exit 0)))
 (.seq (.block 1 (.seq (rg [oo 12 (.mv (.t 0)),
  oo 13 (.mv (.t 5)),
  oo 14 (.mv (.t 1)),
  oo 15 (.iaddr 4 (.t 12) (.t 13)),
  oo 16 (.faddr 0 0 (.t 15)),
  ⟨none, .store 1 (.t 16) (.t 14), none⟩])
 (.seq (rg [oo 17 (.mv (.t 1)),
  oo 18 (.bin .add (.t 17) (ci 1)),
  oo 1 (.mv (.t 18))])
 (.seq (rg [oo 19 (.mv (.t 0)),
  oo 20 (.mv (.t 5)),
  oo 21 (.mv (.t 1)),
  oo 22 (.iaddr 4 (.t 19) (.t 20)),
  oo 23 (.faddr 1 1 (.t 22)),
  ⟨none, .store 1 (.t 23) (.t 21), none⟩])
 (.seq (rg [oo 24 (.mv (.t 1)),
  oo 25 (.bin .add (.t 24) (ci 1)),
  oo 1 (.mv (.t 25))])
 (.seq (rg [oo 26 (.mv (.t 0)),
  oo 27 (.mv (.t 5)),
  oo 28 (.mv (.t 1)),
  oo 29 (.iaddr 4 (.t 26) (.t 27)),
  oo 30 (.faddr 2 2 (.t 29)),
  ⟨none, .store 1 (.t 30) (.t 28), none⟩])
 (.seq (rg [oo 31 (.mv (.t 1)),
  oo 32 (.bin .add (.t 31) (ci 1)),
  oo 1 (.mv (.t 32))])
 (.seq (rg [oo 33 (.mv (.t 0)),
  oo 34 (.mv (.t 5)),
  oo 35 (.mv (.t 1)),
  oo 36 (.iaddr 4 (.t 33) (.t 34)),
  oo 37 (.faddr 3 3 (.t 36)),
  ⟨none, .store 1 (.t 37) (.t 35), none⟩])
 (rg [oo 38 (.mv (.t 1)),
  oo 39 (.bin .add (.t 38) (ci 1)),
  oo 1 (.mv (.t 39))])))))))))
 (rg [oo 10 (.mv (.t 5)),
  oo 11 (.bin .add (.t 10) (ci 1)),
  oo 5 (.mv (.t 11))])))
def f36_r0 : AC :=
 (.seq (rg [oo 40 (.mv (.t 1)),
  oo 4 (.mv (.t 40))])
 .ret)
def f36_ac : AC :=
 (.seq (rg [oo 4 (.mv (ci 0))])
 (.seq (.seq (rg [oo 5 (.mv (ci 0))])
 (.block 0 (.loop ⟨[0, 1, 5], [], [(5000, true)]⟩ f36_b0)))
 f36_r0))
noncomputable def f36_l0 (E : Env) (x1 : U) (x5 : U) (b5000 : List U) : Option U := loopK (roundOf E ⟨[0, 1, 5], [], [(5000, true)]⟩ f36_b0 (blockK 0 (seqK (fun s => exec E f36_r0 s (finishM 4 [(4, none)])) (finishM 4 [(4, none)])))) ([.ref 5000 [] 4 none, .val x1, .val x5], [.vir (.own (.sl 4 b5000))])
theorem f36_l0_eq (E : Env) (x1 : U) (x5 : U) (b5000 : List U) : f36_l0 E x1 x5 b5000 =
 (U.bin .lss x5 (.int .i64 (b5000.length : Int))).bind fun t1 => U.asBool t1
 (U.asInt x5 fun n2 => if 4 = 4 ∧ 0 ≤ n2 ∧ n2 < (b5000.length : Int) then if storable (.val x1) = true ∧ x1.size = 1 then (b5000[(n2 : Int).toNat]?).bind fun e3 => U.asAgg e3 fun us4 => if 0 = sizes (us4.take 0) then (us4[0]?).bind fun e5 => if e5.size = 1 then if (x1 : U).flat = true then (U.bin .add x1 (.int .i64 1)).bind fun t6 => U.asInt x5 fun n7 => if 4 = 4 ∧ 0 ≤ n7 ∧ n7 < (((b5000.set (n2 : Int).toNat (.agg (us4.set 0 x1)))).length : Int) then if storable (.val t6) = true ∧ t6.size = 1 then ((b5000.set (n2 : Int).toNat (.agg (us4.set 0 x1)))[(n7 : Int).toNat]?).bind fun e8 => U.asAgg e8 fun us9 => if 1 = sizes (us9.take 1) then (us9[1]?).bind fun e10 => if e10.size = 1 then if (t6 : U).flat = true then (U.bin .add t6 (.int .i64 1)).bind fun t11 => U.asInt x5 fun n12 => if 4 = 4 ∧ 0 ≤ n12 ∧ n12 < ((((b5000.set (n2 : Int).toNat (.agg (us4.set 0 x1))).set (n7 : Int).toNat (.agg (us9.set 1 t6)))).length : Int) then if storable (.val t11) = true ∧ t11.size = 1 then (((b5000.set (n2 : Int).toNat (.agg (us4.set 0 x1))).set (n7 : Int).toNat (.agg (us9.set 1 t6)))[(n12 : Int).toNat]?).bind fun e13 => U.asAgg e13 fun us14 => if 2 = sizes (us14.take 2) then (us14[2]?).bind fun e15 => if e15.size = 1 then if (t11 : U).flat = true then (U.bin .add t11 (.int .i64 1)).bind fun t16 => U.asInt x5 fun n17 => if 4 = 4 ∧ 0 ≤ n17 ∧ n17 < (((((b5000.set (n2 : Int).toNat (.agg (us4.set 0 x1))).set (n7 : Int).toNat (.agg (us9.set 1 t6))).set (n12 : Int).toNat (.agg (us14.set 2 t11)))).length : Int) then if storable (.val t16) = true ∧ t16.size = 1 then ((((b5000.set (n2 : Int).toNat (.agg (us4.set 0 x1))).set (n7 : Int).toNat (.agg (us9.set 1 t6))).set (n12 : Int).toNat (.agg (us14.set 2 t11)))[(n17 : Int).toNat]?).bind fun e18 => U.asAgg e18 fun us19 => if 3 = sizes (us19.take 3) then (us19[3]?).bind fun e20 => if e20.size = 1 then if (t16 : U).flat = true then (U.bin .add t16 (.int .i64 1)).bind fun t21 => (U.bin .add x5 (.int .i64 1)).bind fun t22 => f36_l0 E t21 t22 ((((b5000.set (n2 : Int).toNat (.agg (us4.set 0 x1))).set (n7 : Int).toNat (.agg (us9.set 1 t6))).set (n12 : Int).toNat (.agg (us14.set 2 t11))).set (n17 : Int).toNat (.agg (us19.set 3 t16))) else none else none else none else none else none else none else none else none else none else none else none else none else none else none else none else none else none else none else none else none)
 (if (x1 : U).flat = true then some (.tup [x1, .sl 4 b5000]) else none) :=
 (loop_eq E _ _ _ _).trans (by kernel_rfl)
structure G_f36 (E : Env) : Prop where
  is : Is E 200085 2 f36_ac [(4, none)]
theorem f36_E {E : Env} (h : G_f36 E) (xs0 : List U) (a1 : U) : E 200085 (.agg [.tup [.sl 4 xs0]] :: [a1]) =
 f36_l0 E a1 (.int .i64 0) xs0 := (h.is _ rfl).trans ((runQ_M rfl).trans (by kernel_rfl))
def f25_ac : AC :=
 (.seq (rg [oo 2 (.mv (.c (.bool false)))])
 (.seq (rg [oo 3 (.mv (ci 1048576))])
 (.seq (rg [oo 11 (.mv (.t 0)),
  oo 12 (.mv (.t 3)),
  oo 13 (.call false 49 [(.t 11), (.t 12)]),
  oo 3 (.mv (.t 13))])
 (.seq (.seq (rg [oo 14 (.mv (.t 3)),
  oo 15 (.bin .lss (.t 14) (ci 0))])
 (.cond (.t 15) (.seq (rg [oo 2 (.mv (.c (.bool true)))])
 .ret) .skip))
 (.seq (rg [oo 16 (.mv (.t 0)),
  oo 17 (.call false 45 [(.t 16)]),
  oo 18 (.call false 353 [(.t 17)]),
  oo 4 (.mv (.t 18))])
 (.seq (rg [oo 19 (.mv (.t 0)),
  oo 20 (.callF 20 false [(.sl 4)] 45 [(.t 19)]),
  oo 5 (.mv (.t 20))])
 (.seq (rg [oo 21 (.mv (.t 5)),
  oo 22 (.callF 22 false [(.sl 4)] 408 [(.t 21)]),
  oo 6 (.mv (.t 22))])
 (.seq (.seq (rg [oo 23 (.mv (.t 6)),
  oo 24 (.mv (.t 4)),
  oo 25 (.call false 2 [(.t 23), (.t 24)]),
  oo 26 (.un .not (.t 25))])
 (.cond (.t 26) (.seq (rg [oo 2 (.mv (.c (.bool false)))])
 .ret) .skip))
 (.seq (.seq (rg [oo 27 (.mv (.t 5)),
  oo 28 (.mv (.t 0)),
  oo 29 (.call false 45 [(.t 28)]),
  oo 30 (.call false 46 [(.t 27), (.t 29)]),
  oo 31 (.un .not (.t 30))])
 (.cond (.t 31) (.seq (rg [oo 2 (.mv (.c (.bool false)))])
 .ret) .skip))
 (.seq (rg [oo 7 (.mv (ci 1))])
 (.seq (rg [oo 32 (.mv (.t 5)),
  oo 33 (.mv (.t 7)),
  oo 34 (.callM 4 287 (.t 32) [(.t 33)]),
  oo 7 (.mv (.t 34))])
 (.seq (.seq (rg [oo 35 (.mv (.t 7)),
  oo 36 (.bin .lss (.t 35) (ci 0)),
  oo 37 (.mv (.t 36)),
  ⟨some 38, .mv (.t 6), some (37, false)⟩,
  ⟨some 39, .mv (.t 4), some (37, false)⟩,
  ⟨some 40, .call false 2 [(.t 38), (.t 39)], some (37, false)⟩,
  ⟨some 41, .un .not (.t 40), some (37, false)⟩,
  oo 42 (.pick (.t 37) (.c (.bool true)) (.t 41))])
 (.cond (.t 42) (.seq (rg [oo 2 (.mv (.c (.bool false)))])
 .ret) .skip))
 (.seq (rg [oo 8 (.mv (ci 1))])
 (.seq (rg [oo 43 (.mv (.t 6)),
  oo 44 (.mv (.t 8)),
  oo 45 (.callM 4 85 (.t 43) [(.t 44)]),
  oo 8 (.mv (.t 45))])
 (.seq (rg [oo 9 (.mv (ci 1))])
 (.seq (rg [oo 46 (.mv (.t 6)),
  oo 47 (.mv (.t 9)),
  oo 48 (.call false 83 [(.t 46), (.t 47)]),
  oo 9 (.mv (.t 48))])
 (.seq (.seq (rg [oo 49 (.mv (.t 9)),
  oo 50 (.bin .lss (.t 49) (ci 0))])
 (.cond (.t 50) (.seq (rg [oo 2 (.mv (.c (.bool false)))])
 .ret) .skip))
 (.seq (.seq (rg [oo 51 (.mv (.t 9)),
  oo 52 (.mv (.t 8)),
  oo 53 (.bin .neq (.t 51) (.t 52))])
 (.cond (.t 53) (.seq (rg [oo 2 (.mv (.c (.bool false)))])
 .ret) .skip))
 (.seq (rg [oo 54 (.mv (.t 0)),
  oo 55 (.call false 45 [(.t 54)]),
  oo 56 (.call false 408 [(.t 55)]),
  oo 10 (.mv (.t 56))])
 (.seq (.seq (rg [oo 57 (.mv (.t 10)),
  oo 58 (.mv (.t 4)),
  oo 59 (.call false 2 [(.t 57), (.t 58)]),
  oo 60 (.un .not (.t 59))])
 (.cond (.t 60) (.seq (rg [oo 2 (.mv (.c (.bool false)))])
 .ret) .skip))
 (.seq (rg [oo 9 (.mv (ci 1))])
 (.seq (rg [oo 61 (.mv (.t 6)),
  oo 62 (.mv (.t 9)),
  oo 63 (.call false 83 [(.t 61), (.t 62)]),
  oo 9 (.mv (.t 63))])
 (.seq (.seq (rg [oo 64 (.mv (.t 9)),
  oo 65 (.bin .lss (.t 64) (ci 0))])
 (.cond (.t 65) (.seq (rg [oo 2 (.mv (.c (.bool false)))])
 .ret) .skip))
 (.seq (.seq (rg [oo 66 (.mv (.t 9)),
  oo 67 (.mv (.t 8)),
  oo 68 (.bin .neq (.t 66) (.t 67))])
 (.cond (.t 68) (.seq (rg [oo 2 (.mv (.c (.bool false)))])
 .ret) .skip))
 (.seq (rg [oo 2 (.mv (.c (.bool true)))])
 .ret)))))))))))))))))))))))))
structure G_f25 (E : Env) : Prop where
  is : Is E 407 1 f25_ac [(2, none)]
  c_f41 : G_f41 E
  c_f58 : G_f58 E
  c_f45 : G_f45 E
  c_f3 : G_f3 E
  c_f27 : G_f27 E
  c_f29 : G_f29 E
  c_f34 : G_f34 E
  c_f46 : G_f46 E
  c_f4 : G_f4 E
  c_f37 : G_f37 E
  c_f36 : G_f36 E
theorem f25_E {E : Env} (h : G_f25 E) (a0 : U) : E 407 [a0] =
 (E 49 [a0, (.int .i64 1048576)]).bind fun t1 => (U.bin .lss t1 (.int .i64 0)).bind fun t2 => U.asBool t2
 (some (.bool true))
 ((E 45 [a0]).bind fun t3 => (E 353 [t3]).bind fun t4 => (E 100045 [a0]).bind fun t5 => U.noTup t5 fun x6 => U.asSlK 4 x6 fun us7 => (E 100408 [(.sl 4 us7)]).bind fun t8 => U.noTup t8 fun x9 => U.asSlK 4 x9 fun us10 => (E 2 [(.sl 4 us10), t4]).bind fun t11 => U.asFlat t11 fun t12 => (U.un .not t12).bind fun t13 => U.asBool t13
 (some (.bool false))
 ((E 45 [a0]).bind fun t14 => (E 46 [(.sl 4 us7), t14]).bind fun t15 => U.asFlat t15 fun t16 => (U.un .not t16).bind fun t17 => U.asBool t17
 (some (.bool false))
 ((E 200287 (.agg [.tup [.sl 4 us7]] :: [(.int .i64 1)])).bind fun t18 => U.asMut 4 t18 fun y19 ys20 => U.asFlat y19 fun y19 => (U.bin .lss y19 (.int .i64 0)).bind fun t21 => U.asBool t21
 (some (.bool false))
 ((E 2 [(.sl 4 us10), t4]).bind fun t22 => U.asFlat t22 fun t23 => (U.un .not t23).bind fun t24 => U.asBool t24
 (some (.bool false))
 ((E 200085 (.agg [.tup [.sl 4 us10]] :: [(.int .i64 1)])).bind fun t25 => U.asMut 4 t25 fun y26 ys27 => U.asFlat y26 fun y26 => (E 83 [(.sl 4 ys27), (.int .i64 1)]).bind fun t28 => U.asFlat t28 fun t29 => (U.bin .lss t29 (.int .i64 0)).bind fun t30 => U.asBool t30
 (some (.bool false))
 ((U.bin .neq t29 y26).bind fun t31 => U.asBool t31
 (some (.bool false))
 ((E 45 [a0]).bind fun t32 => (E 408 [t32]).bind fun t33 => (E 2 [t33, t4]).bind fun t34 => (U.un .not t34).bind fun t35 => U.asBool t35
 (some (.bool false))
 ((E 83 [(.sl 4 ys27), (.int .i64 1)]).bind fun t36 => U.asFlat t36 fun t37 => (U.bin .lss t37 (.int .i64 0)).bind fun t38 => U.asBool t38
 (some (.bool false))
 ((U.bin .neq t37 y26).bind fun t39 => U.asBool t39
 (some (.bool false))
 (some (.bool true))))))))))) := (h.is _ rfl).trans ((runQ_V rfl).trans (by kernel_rfl))
end Go.Proofs.Ytlmnkhlkccipfaa.Am

import Derived.KernelRfl
import Derived.Test.YtpbogagoflpdfaaTrackWriteF0
import Derived.Test.YtpbogagoflpdfaaAmIg
import Derived.Test.YtpbogagoflpdfaaAmW
namespace Go.Proofs.Ytpbogagoflpdfaa.Am
open Go
set_option linter.unusedVariables false
set_option maxRecDepth 100000
def f11_r0 : AC :=
 (rg [])
def f11_ac : AC :=
 (.seq (rg [oo 4 (.box false 4 (.t 0)),
  oo 5 (.box false 5 (.t 1)),
  oo 8 (.alloc 8 (.agg [(.int .i64 0), (.int .i64 0), (.int .i64 0), (.int .i64 0), (.int .i64 0), (.int .i64 0), (.int .i64 0), (.nsl 2), (.nsl 2)])),
  oo 9 (.mv (.c (.bool false)))])
 (.seq (rg [oo 11 (.load true 9 (.t 5)),
  oo 12 (.callF 12 false [(.agg [.int, .int, .int, .int, .int, .int, .int, (.sl 2), (.sl 2)])] 222 [(.t 11)]),
  oo 10 (.alloc 10 (.agg [(.int .i64 0), (.int .i64 0), (.int .i64 0), (.int .i64 0), (.int .i64 0), (.int .i64 0), (.int .i64 0), (.nsl 2), (.nsl 2)])),
  ⟨none, .storeM 3000 9 (.t 10) (.t 12), none⟩])
 (.seq (.seq (rg [oo 13 (.load true 1 (.t 4)),
  oo 14 (.call false 112 [(.t 13)]),
  oo 15 (.un .not (.t 14)),
  oo 16 (.mv (.t 15)),
  ⟨some 17, .load true 9 (.t 5), some (16, false)⟩,
  ⟨some 18, .call false 301 [(.t 17)], some (16, false)⟩,
  ⟨some 19, .un .not (.t 18), some (16, false)⟩,
  oo 20 (.pick (.t 16) (.c (.bool true)) (.t 19)),
  oo 21 (.mv (.t 20)),
  ⟨some 22, .mv (.t 2), some (21, false)⟩,
  ⟨some 23, .call false 11 [(.t 22)], some (21, false)⟩,
  ⟨some 24, .un .not (.t 23), some (21, false)⟩,
  oo 25 (.pick (.t 21) (.c (.bool true)) (.t 24)),
  oo 26 (.mv (.t 25)),
  ⟨some 27, .mv (.t 3), some (26, false)⟩,
  ⟨some 28, .call false 76 [(.t 27)], some (26, false)⟩,
  ⟨some 29, .un .not (.t 28), some (26, false)⟩,
  oo 30 (.pick (.t 26) (.c (.bool true)) (.t 29))])
 (.cond (.t 30) (.seq (rg [oo 31 (.loadO (.agg [.int, .int, .int, .int, .int, .int, .int, (.sl 2), (.sl 2)]) (.t 10)),
  ⟨none, .storeM 3001 9 (.t 8) (.t 31), none⟩,
  oo 9 (.mv (.c (.bool false)))])
 .ret) .skip))
 (.seq (.regI 0 [oo 32 (.load true 1 (.t 4)),
  oo 33 (.mv (.t 2)),
  oo 34 (.mv (.t 3))] ⟨some 35, 37, 63, 337, [(.t 10), (.t 32), (.t 33), (.t 34)], []⟩ (.seq (rg [oo 42 (.box false 42 (.t 38))])
 (.seq (rg [oo 48 (.mv (.t 37)),
  oo 49 (.nilck (.t 48)),
  oo 50 (.faddr 8 8 (.t 49)),
  oo 51 (.loadO (.sl 2) (.t 50)),
  oo 52 (.mv (.t 39)),
  oo 53 (.call false 340 [(.t 51), (.t 52), (.c (.fn 339 []))]),
  oo 47 (.mv (.t 53)),
  oo 54 (.extract 0 (.t 47)),
  oo 55 (.extract 1 (.t 47)),
  oo 45 (.mv (.t 54)),
  oo 46 (.mv (.t 55))])
 (.seq (rg [oo 56 (.mv (.t 37)),
  oo 57 (.mv (.t 37)),
  oo 58 (.nilck (.t 57)),
  oo 59 (.faddr 8 8 (.t 58)),
  oo 60 (.loadO (.sl 2) (.t 59)),
  oo 61 (.callF 61 false [(.sl 2)] 225 [(.t 60)]),
  oo 62 (.nilck (.t 56)),
  oo 63 (.faddr 8 8 (.t 62)),
  ⟨none, .storeM 3002 1 (.t 63) (.t 61), none⟩])
 (.seq (.seq (rg [oo 64 (.mv (.t 46))])
 (.cond (.t 64) (rg [oo 65 (.mv (.t 37)),
  oo 66 (.nilck (.t 65)),
  oo 67 (.faddr 8 8 (.t 66)),
  oo 68 (.loadO (.sl 2) (.t 67)),
  oo 69 (.mv (.t 45)),
  oo 70 (.mv (.t 40)),
  oo 71 (.iaddr 2 (.t 68) (.t 69)),
  oo 72 (.faddr 1 1 (.t 71)),
  ⟨none, .store 1 (.t 72) (.t 70), none⟩]) (rg [oo 73 (.mv (.t 37)),
  oo 74 (.mv (.t 37)),
  oo 75 (.nilck (.t 74)),
  oo 76 (.faddr 8 8 (.t 75)),
  oo 77 (.loadO (.sl 2) (.t 76)),
  oo 78 (.mv (.t 45)),
  oo 79 (.mv (.t 39)),
  oo 80 (.mv (.t 40)),
  oo 81 (.build [(.int .i64 0), (.int .i64 0)] [(0, (.t 79)), (1, (.t 80))]),
  oo 82 (.bslice 0 82 2 1 (.agg [(.int .i64 0), (.int .i64 0)]) [(0, (.t 81))]),
  oo 83 (.callC 83 2 338 (.t 77) [(.t 78), (.t 82)]),
  oo 84 (.nilck (.t 73)),
  oo 85 (.faddr 8 8 (.t 84)),
  ⟨none, .storeM 3004 1 (.t 85) (.t 83), none⟩])))
 (.region 14 [oo 86 (.mv (.t 37)),
  oo 87 (.mv (.t 37)),
  oo 88 (.nilck (.t 87)),
  oo 89 (.faddr 4 4 (.t 88)),
  oo 90 (.load false 1 (.t 89)),
  oo 91 (.load true 1 (.t 42)),
  oo 92 (.mv (.t 39)),
  oo 93 (.call false 230 [(.t 91), (.t 92)]),
  oo 94 (.nilck (.t 93)),
  oo 95 (.faddr 3 3 (.t 94)),
  oo 96 (.load false 1 (.t 95)),
  oo 97 (.minmax true [(.t 90), (.t 96)]),
  oo 98 (.nilck (.t 86)),
  oo 99 (.faddr 4 4 (.t 98)),
  ⟨none, .store 1 (.t 99) (.t 97), none⟩]))))) f11_r0)
 (.seq (rg [oo 36 (.loadO (.agg [.int, .int, .int, .int, .int, .int, .int, (.sl 2), (.sl 2)]) (.t 10)),
  ⟨none, .storeM 3003 9 (.t 8) (.t 36), none⟩,
  oo 9 (.mv (.c (.bool true)))])
 .ret)))))
structure G_f11 (E : Env) : Prop where
  is : Is E 100334 4 f11_ac [(8, some (true, 9)), (9, none)]
  c_f5 : G_f5 E
  c_f14 : G_f14 E
  c_f21 : G_f21 E
  c_f23 : G_f23 E
  c_f62 : G_f62 E
  c_f15 : G_f15 E
  c_f9 : G_f9 E
  c_f13 : G_f13 E
  c_f64 : IsClone E 225 2 16
  c_slices_Insert_g338 : IsIns E 338 2 16
theorem f11_E {E : Env} (h : G_f11 E) (a0 a1 a2 a3 : U) : E 100334 [a0, a1, a2, a3] =
 U.noTup a0 fun x1 => U.noTup a1 fun x2 => U.asVar true 9 x2 fun e3 => (E 100222 [e3]).bind fun t4 => U.noTup t4 fun x5 => U.asAgg x5 fun us6 => (match us6 with
 | u7 :: us8 => (U.asInt u7 fun n9 => (match us8 with
 | u10 :: us11 => (U.asInt u10 fun n12 => (match us11 with
 | u13 :: us14 => (U.asInt u13 fun n15 => (match us14 with
 | u16 :: us17 => (U.asInt u16 fun n18 => (match us17 with
 | u19 :: us20 => (U.asInt u19 fun n21 => (match us20 with
 | u22 :: us23 => (U.asInt u22 fun n24 => (match us23 with
 | u25 :: us26 => (U.asInt u25 fun n27 => (match us26 with
 | u28 :: us29 => (U.asSlK 2 u28 fun us30 => (match us29 with
 | u31 :: us32 => (U.asSlK 2 u31 fun us33 => (match us32 with
 | [] => (U.asVar true 1 x1 fun e34 => (E 112 [e34]).bind fun t35 => (U.un .not t35).bind fun t36 => U.asBool t36
 (some (.tup [(.agg [(.int .i64 n9), (.int .i64 n12), (.int .i64 n15), (.int .i64 n18), (.int .i64 n21), (.int .i64 n24), (.int .i64 n27), (.sl 2 us30), (.sl 2 us33)]), (.bool false)]))
 (U.asVar true 9 x2 fun e37 => (E 301 [e37]).bind fun t38 => (U.un .not t38).bind fun t39 => U.asBool t39
 (some (.tup [(.agg [(.int .i64 n9), (.int .i64 n12), (.int .i64 n15), (.int .i64 n18), (.int .i64 n21), (.int .i64 n24), (.int .i64 n27), (.sl 2 us30), (.sl 2 us33)]), (.bool false)]))
 ((E 11 [a2]).bind fun t40 => (U.un .not t40).bind fun t41 => U.asBool t41
 (some (.tup [(.agg [(.int .i64 n9), (.int .i64 n12), (.int .i64 n15), (.int .i64 n18), (.int .i64 n21), (.int .i64 n24), (.int .i64 n27), (.sl 2 us30), (.sl 2 us33)]), (.bool false)]))
 ((E 76 [a3]).bind fun t42 => (U.un .not t42).bind fun t43 => U.asBool t43
 (some (.tup [(.agg [(.int .i64 n9), (.int .i64 n12), (.int .i64 n15), (.int .i64 n18), (.int .i64 n21), (.int .i64 n24), (.int .i64 n27), (.sl 2 us30), (.sl 2 us33)]), (.bool false)]))
 (U.asVar true 1 x1 fun e44 => U.noTup e44 fun x45 => (E 340 [(.sl 2 us33), a2, (.fn 339 [])]).bind fun t46 => U.asFlat t46 fun t47 => U.part 0 t47 fun p48 => U.part 1 t47 fun p49 => (E 100225 [(.sl 2 us33)]).bind fun t50 => U.noTup t50 fun x51 => U.asSlK 2 x51 fun us52 => U.asBool p49
 (U.asInt p48 fun n53 => if 2 = 2 ∧ 0 ≤ n53 ∧ n53 < (us52.length : Int) then if storable (.val a3) = true ∧ a3.size = 1 then (us52[(n53 : Int).toNat]?).bind fun e54 => U.asAgg e54 fun us55 => if 1 = sizes (us55.take 1) then (us55[1]?).bind fun e56 => if e56.size = 1 then if (a3 : U).flat = true then U.asVar true 1 x45 fun e57 => (E 230 [e57, a2]).bind fun t58 => U.asVp t58 fun v59 => U.fieldAt 3 3 v59 fun f60 => U.asVar false 1 f60 fun e61 => U.asInt e61 fun n62 => some (.tup [(.agg [(.int .i64 n9), (.int .i64 n12), (.int .i64 n15), (.int .i64 n18), (.int .i64 (([n62] : List Int).foldl (fun a b => if true then (if a < b then b else a) else (if b < a then b else a)) n21)), (.int .i64 n24), (.int .i64 n27), (.sl 2 us30), (.sl 2 (us52.set (n53 : Int).toNat (.agg (us55.set 1 a3))))]), (.bool true)]) else none else none else none else none else none)
 (if partable (.val a2) = true ∧ a2.size = 1 then if partable (.val a3) = true ∧ a3.size = 1 then if partable (.val (.agg [a2, a3])) = true ∧ ((.agg [a2, a3]) : U).size = 2 then (E 300338 (.agg [.tup [.sl 2 us52]] :: [p48, (.sl 2 [(.agg [a2, a3])])])).bind fun t63 => U.asSlK 2 t63 fun us64 => U.asVar true 1 x45 fun e65 => (E 230 [e65, a2]).bind fun t66 => U.asVp t66 fun v67 => U.fieldAt 3 3 v67 fun f68 => U.asVar false 1 f68 fun e69 => U.asInt e69 fun n70 => some (.tup [(.agg [(.int .i64 n9), (.int .i64 n12), (.int .i64 n15), (.int .i64 n18), (.int .i64 (([n70] : List Int).foldl (fun a b => if true then (if a < b then b else a) else (if b < a then b else a)) n21)), (.int .i64 n24), (.int .i64 n27), (.sl 2 us30), (.sl 2 us64)]), (.bool true)]) else none else none else none))))))
 | _ => none))
 | [] => none))
 | [] => none))
 | [] => none))
 | [] => none))
 | [] => none))
 | [] => none))
 | [] => none))
 | [] => none))
 | [] => none) := (h.is _ rfl).trans ((runQ_F rfl).trans (by kernel_rfl))
def f39_b0 : AC :=
 (.seq (.seq (rg [oo 6 (.mv (.t 5)),
  oo 7 (.mv (.t 0)),
  oo 8 (.len false (.t 7)),
  oo 9 (.bin .lss (.t 6) (.t 8))])
 (.cond (.t 9) .skip (.exit 0)))
 (.seq (.block 1 (.seq (rg [oo 12 (.mv (.t 0)),
  oo 13 (.mv (.t 5)),
  oo 14 (.mv (.t 1)),
  oo 15 (.iaddr 5 (.t 12) (.t 13)),
  oo 16 (.faddr 0 0 (.t 15)),
  ⟨none, .store 1 (.t 16) (.t 14), none⟩])
 (.seq (rg [oo 17 (.mv (.t 1)),
  oo 18 (.bin .add (.t 17) (ci 1)),
  oo 1 (.mv (.t 18))])
 (.seq (rg [oo 19 (.mv (.t 0)),
  oo 20 (.mv (.t 5)),
  oo 21 (.mv (.t 1)),
  oo 22 (.iaddr 5 (.t 19) (.t 20)),
  oo 23 (.faddr 1 1 (.t 22)),
  ⟨none, .store 1 (.t 23) (.t 21), none⟩])
 (.seq (rg [oo 24 (.mv (.t 1)),
  oo 25 (.bin .add (.t 24) (ci 1)),
  oo 1 (.mv (.t 25))])
 (.seq (rg [oo 26 (.mv (.t 0)),
  oo 27 (.mv (.t 5)),
  oo 28 (.mv (.t 1)),
  oo 29 (.iaddr 5 (.t 26) (.t 27)),
  oo 30 (.faddr 2 2 (.t 29)),
  ⟨none, .store 1 (.t 30) (.t 28), none⟩])
 (.seq (rg [oo 31 (.mv (.t 1)),
  oo 32 (.bin .add (.t 31) (ci 1)),
  oo 1 (.mv (.t 32))])
 (.seq (rg [oo 33 (.mv (.t 0)),
  oo 34 (.mv (.t 5)),
  oo 35 (.mv (.t 1)),
  oo 36 (.iaddr 5 (.t 33) (.t 34)),
  oo 37 (.faddr 3 3 (.t 36)),
  ⟨none, .store 1 (.t 37) (.t 35), none⟩])
 (.seq (rg [oo 38 (.mv (.t 1)),
  oo 39 (.bin .add (.t 38) (ci 1)),
  oo 1 (.mv (.t 39))])
 (.seq (rg [oo 40 (.mv (.t 0)),
  oo 41 (.mv (.t 5)),
  oo 42 (.mv (.t 1)),
  oo 43 (.iaddr 5 (.t 40) (.t 41)),
  oo 44 (.faddr 4 4 (.t 43)),
  ⟨none, .store 1 (.t 44) (.t 42), none⟩])
 (rg [oo 45 (.mv (.t 1)),
  oo 46 (.bin .add (.t 45) (ci 1)),
  oo 1 (.mv (.t 46))])))))))))))
 (rg [oo 10 (.mv (.t 5)),
  oo 11 (.bin .add (.t 10) (ci 1)),
  oo 5 (.mv (.t 11))])))
def f39_r0 : AC :=
 (.seq (rg [oo 47 (.mv (.t 1)),
  oo 4 (.mv (.t 47))])
 .ret)
def f39_ac : AC :=
 (.seq (rg [oo 4 (.mv (ci 0))])
 (.seq (.seq (rg [oo 5 (.mv (ci 0))])
 (.block 0 (.loop ⟨[0, 1, 5], [], [(5000, true)]⟩ f39_b0)))
 f39_r0))
noncomputable def f39_l0 (E : Env) (x1 : U) (x5 : U) (b5000 : List U) : Option U := loopK (roundOf E ⟨[0, 1, 5], [], [(5000, true)]⟩ f39_b0 (blockK 0 (seqK (fun s => exec E f39_r0 s (finishM 5 [(4, none)])) (finishM 5 [(4, none)])))) ([.ref 5000 [] 5 none, .val x1, .val x5], [.vir (.own (.sl 5 b5000))])
theorem f39_l0_eq (E : Env) (x1 : U) (x5 : U) (b5000 : List U) : f39_l0 E x1 x5 b5000 =
 (U.bin .lss x5 (.int .i64 (b5000.length : Int))).bind fun t1 => U.asBool t1
 (U.asInt x5 fun n2 => if 5 = 5 ∧ 0 ≤ n2 ∧ n2 < (b5000.length : Int) then if storable (.val x1) = true ∧ x1.size = 1 then (b5000[(n2 : Int).toNat]?).bind fun e3 => U.asAgg e3 fun us4 => if 0 = sizes (us4.take 0) then (us4[0]?).bind fun e5 => if e5.size = 1 then if (x1 : U).flat = true then (U.bin .add x1 (.int .i64 1)).bind fun t6 => U.asInt x5 fun n7 => if 5 = 5 ∧ 0 ≤ n7 ∧ n7 < (((b5000.set (n2 : Int).toNat (.agg (us4.set 0 x1)))).length : Int) then if storable (.val t6) = true ∧ t6.size = 1 then ((b5000.set (n2 : Int).toNat (.agg (us4.set 0 x1)))[(n7 : Int).toNat]?).bind fun e8 => U.asAgg e8 fun us9 => if 1 = sizes (us9.take 1) then (us9[1]?).bind fun e10 => if e10.size = 1 then if (t6 : U).flat = true then (U.bin .add t6 (.int .i64 1)).bind fun t11 => U.asInt x5 fun n12 => if 5 = 5 ∧ 0 ≤ n12 ∧ n12 < ((((b5000.set (n2 : Int).toNat (.agg (us4.set 0 x1))).set (n7 : Int).toNat (.agg (us9.set 1 t6)))).length : Int) then if storable (.val t11) = true ∧ t11.size = 1 then (((b5000.set (n2 : Int).toNat (.agg (us4.set 0 x1))).set (n7 : Int).toNat (.agg (us9.set 1 t6)))[(n12 : Int).toNat]?).bind fun e13 => U.asAgg e13 fun us14 => if 2 = sizes (us14.take 2) then (us14[2]?).bind fun e15 => if e15.size = 1 then if (t11 : U).flat = true then (U.bin .add t11 (.int .i64 1)).bind fun t16 => U.asInt x5 fun n17 => if 5 = 5 ∧ 0 ≤ n17 ∧ n17 < (((((b5000.set (n2 : Int).toNat (.agg (us4.set 0 x1))).set (n7 : Int).toNat (.agg (us9.set 1 t6))).set (n12 : Int).toNat (.agg (us14.set 2 t11)))).length : Int) then if storable (.val t16) = true ∧ t16.size = 1 then ((((b5000.set (n2 : Int).toNat (.agg (us4.set 0 x1))).set (n7 : Int).toNat (.agg (us9.set 1 t6))).set (n12 : Int).toNat (.agg (us14.set 2 t11)))[(n17 : Int).toNat]?).bind fun e18 => U.asAgg e18 fun us19 => if 3 = sizes (us19.take 3) then (us19[3]?).bind fun e20 => if e20.size = 1 then if (t16 : U).flat = true then (U.bin .add t16 (.int .i64 1)).bind fun t21 => U.asInt x5 fun n22 => if 5 = 5 ∧ 0 ≤ n22 ∧ n22 < ((((((b5000.set (n2 : Int).toNat (.agg (us4.set 0 x1))).set (n7 : Int).toNat (.agg (us9.set 1 t6))).set (n12 : Int).toNat (.agg (us14.set 2 t11))).set (n17 : Int).toNat (.agg (us19.set 3 t16)))).length : Int) then if storable (.val t21) = true ∧ t21.size = 1 then (((((b5000.set (n2 : Int).toNat (.agg (us4.set 0 x1))).set (n7 : Int).toNat (.agg (us9.set 1 t6))).set (n12 : Int).toNat (.agg (us14.set 2 t11))).set (n17 : Int).toNat (.agg (us19.set 3 t16)))[(n22 : Int).toNat]?).bind fun e23 => U.asAgg e23 fun us24 => if 4 = sizes (us24.take 4) then (us24[4]?).bind fun e25 => if e25.size = 1 then if (t21 : U).flat = true then (U.bin .add t21 (.int .i64 1)).bind fun t26 => (U.bin .add x5 (.int .i64 1)).bind fun t27 => f39_l0 E t26 t27 (((((b5000.set (n2 : Int).toNat (.agg (us4.set 0 x1))).set (n7 : Int).toNat (.agg (us9.set 1 t6))).set (n12 : Int).toNat (.agg (us14.set 2 t11))).set (n17 : Int).toNat (.agg (us19.set 3 t16))).set (n22 : Int).toNat (.agg (us24.set 4 t21))) else none else none else none else none else none else none else none else none else none else none else none else none else none else none else none else none else none else none else none else none else none else none else none else none else none)
 (if (x1 : U).flat = true then some (.tup [x1, .sl 5 b5000]) else none) :=
 (loop_eq E _ _ _ _).trans (by kernel_rfl)
structure G_f39 (E : Env) : Prop where
  is : Is E 200122 2 f39_ac [(4, none)]
theorem f39_E {E : Env} (h : G_f39 E) (xs0 : List U) (a1 : U) : E 200122 (.agg [.tup [.sl 5 xs0]] :: [a1]) =
 f39_l0 E a1 (.int .i64 0) xs0 := (h.is _ rfl).trans ((runQ_M rfl).trans (by kernel_rfl))
def f38_b0 : AC :=
 (.seq (.seq (rg [oo 6 (.mv (.t 5)),
  oo 7 (.mv (.t 0)),
  oo 8 (.len false (.t 7)),
  oo 9 (.bin .lss (.t 6) (.t 8))])
 (.cond (.t 9) .skip (.exit 0)))
 (.seq (.block 1 (rg [oo 12 (.mv (.t 0)),
  oo 13 (.mv (.t 5)),
  oo 14 (.iaddr 1 (.t 12) (.t 13)),
  oo 15 (.loadO (.sl 5) (.t 14)),
  oo 16 (.mv (.t 1)),
  oo 17 (.callM 5 122 (.t 15) [(.t 16)]),
  oo 1 (.mv (.t 17))]))
 (rg [oo 10 (.mv (.t 5)),
  oo 11 (.bin .add (.t 10) (ci 1)),
  oo 5 (.mv (.t 11))])))
def f38_r0 : AC :=
 (.seq (rg [oo 18 (.mv (.t 1)),
  oo 4 (.mv (.t 18))])
 .ret)
def f38_ac : AC :=
 (.seq (rg [oo 4 (.mv (ci 0))])
 (.seq (.seq (rg [oo 5 (.mv (ci 0))])
 (.block 0 (.loop ⟨[0, 1, 5], [], [(5000, true)]⟩ f38_b0)))
 f38_r0))
noncomputable def f38_l0 (E : Env) (x1 : U) (x5 : U) (b5000 : List U) : Option U := loopK (roundOf E ⟨[0, 1, 5], [], [(5000, true)]⟩ f38_b0 (blockK 0 (seqK (fun s => exec E f38_r0 s (finishM 1 [(4, none)])) (finishM 1 [(4, none)])))) ([.ref 5000 [] 1 none, .val x1, .val x5], [.vir (.own (.sl 1 b5000))])
theorem f38_l0_eq (E : Env) (x1 : U) (x5 : U) (b5000 : List U) : f38_l0 E x1 x5 b5000 =
 (U.bin .lss x5 (.int .i64 (b5000.length : Int))).bind fun t1 => U.asBool t1
 (U.asInt x5 fun n2 => if 1 = 1 ∧ 0 ≤ n2 ∧ n2 < (b5000.length : Int) then (b5000[(n2 : Int).toNat]?).bind fun e3 => U.asSlK 5 e3 fun _ => (b5000[(n2 : Int).toNat]?).bind fun e4 => U.asSlK 5 e4 fun _ => U.asSlK 5 e4 fun us5 => (E 200122 (.agg [.tup [.sl 5 us5]] :: [x1])).bind fun t6 => U.asMut 5 t6 fun y7 ys8 => U.asFlat y7 fun y7 => (b5000[(n2 : Int).toNat]?).bind fun e9 => if e9.size = 1 then (U.bin .add x5 (.int .i64 1)).bind fun t10 => f38_l0 E y7 t10 (b5000.set (n2 : Int).toNat (.sl 5 ys8)) else none else none)
 (if (x1 : U).flat = true then some (.tup [x1, .sl 1 b5000]) else none) :=
 (loop_eq E _ _ _ _).trans (by kernel_rfl)
structure G_f38 (E : Env) : Prop where
  is : Is E 200121 2 f38_ac [(4, none)]
  c_f39 : G_f39 E
theorem f38_E {E : Env} (h : G_f38 E) (xs0 : List U) (a1 : U) : E 200121 (.agg [.tup [.sl 1 xs0]] :: [a1]) =
 f38_l0 E a1 (.int .i64 0) xs0 := (h.is _ rfl).trans ((runQ_M rfl).trans (by kernel_rfl))
def f37_b0 : AC :=
 (.seq (.seq (rg [oo 6 (.mv (.t 5)),
  oo 7 (.mv (.t 0)),
  oo 8 (.len false (.t 7)),
  oo 9 (.bin .lss (.t 6) (.t 8))])
 (.cond (.t 9) .skip (.exit 0)))
 (.seq (.block 1 (.seq (rg [oo 12 (.mv (.t 0)),
  oo 13 (.mv (.t 5)),
  oo 14 (.mv (.t 1)),
  oo 15 (.iaddr 2 (.t 12) (.t 13)),
  oo 16 (.faddr 0 0 (.t 15)),
  ⟨none, .store 1 (.t 16) (.t 14), none⟩])
 (.seq (rg [oo 17 (.mv (.t 1)),
  oo 18 (.bin .add (.t 17) (ci 1)),
  oo 1 (.mv (.t 18))])
 (.seq (rg [oo 19 (.mv (.t 0)),
  oo 20 (.mv (.t 5)),
  oo 21 (.mv (.t 1)),
  oo 22 (.iaddr 2 (.t 19) (.t 20)),
  oo 23 (.faddr 1 1 (.t 22)),
  ⟨none, .store 1 (.t 23) (.t 21), none⟩])
 (rg [oo 24 (.mv (.t 1)),
  oo 25 (.bin .add (.t 24) (ci 1)),
  oo 1 (.mv (.t 25))])))))
 (rg [oo 10 (.mv (.t 5)),
  oo 11 (.bin .add (.t 10) (ci 1)),
  oo 5 (.mv (.t 11))])))
def f37_r0 : AC :=
 (.seq (rg [oo 26 (.mv (.t 1)),
  oo 4 (.mv (.t 26))])
 .ret)
def f37_ac : AC :=
 (.seq (rg [oo 4 (.mv (ci 0))])
 (.seq (.seq (rg [oo 5 (.mv (ci 0))])
 (.block 0 (.loop ⟨[0, 1, 5], [], [(5000, true)]⟩ f37_b0)))
 f37_r0))
noncomputable def f37_l0 (E : Env) (x1 : U) (x5 : U) (b5000 : List U) : Option U := loopK (roundOf E ⟨[0, 1, 5], [], [(5000, true)]⟩ f37_b0 (blockK 0 (seqK (fun s => exec E f37_r0 s (finishM 2 [(4, none)])) (finishM 2 [(4, none)])))) ([.ref 5000 [] 2 none, .val x1, .val x5], [.vir (.own (.sl 2 b5000))])
theorem f37_l0_eq (E : Env) (x1 : U) (x5 : U) (b5000 : List U) : f37_l0 E x1 x5 b5000 =
 (U.bin .lss x5 (.int .i64 (b5000.length : Int))).bind fun t1 => U.asBool t1
 (U.asInt x5 fun n2 => if 2 = 2 ∧ 0 ≤ n2 ∧ n2 < (b5000.length : Int) then if storable (.val x1) = true ∧ x1.size = 1 then (b5000[(n2 : Int).toNat]?).bind fun e3 => U.asAgg e3 fun us4 => if 0 = sizes (us4.take 0) then (us4[0]?).bind fun e5 => if e5.size = 1 then if (x1 : U).flat = true then (U.bin .add x1 (.int .i64 1)).bind fun t6 => U.asInt x5 fun n7 => if 2 = 2 ∧ 0 ≤ n7 ∧ n7 < (((b5000.set (n2 : Int).toNat (.agg (us4.set 0 x1)))).length : Int) then if storable (.val t6) = true ∧ t6.size = 1 then ((b5000.set (n2 : Int).toNat (.agg (us4.set 0 x1)))[(n7 : Int).toNat]?).bind fun e8 => U.asAgg e8 fun us9 => if 1 = sizes (us9.take 1) then (us9[1]?).bind fun e10 => if e10.size = 1 then if (t6 : U).flat = true then (U.bin .add t6 (.int .i64 1)).bind fun t11 => (U.bin .add x5 (.int .i64 1)).bind fun t12 => f37_l0 E t11 t12 ((b5000.set (n2 : Int).toNat (.agg (us4.set 0 x1))).set (n7 : Int).toNat (.agg (us9.set 1 t6))) else none else none else none else none else none else none else none else none else none else none)
 (if (x1 : U).flat = true then some (.tup [x1, .sl 2 b5000]) else none) :=
 (loop_eq E _ _ _ _).trans (by kernel_rfl)
structure G_f37 (E : Env) : Prop where
  is : Is E 200095 2 f37_ac [(4, none)]
theorem f37_E {E : Env} (h : G_f37 E) (xs0 : List U) (a1 : U) : E 200095 (.agg [.tup [.sl 2 xs0]] :: [a1]) =
 f37_l0 E a1 (.int .i64 0) xs0 := (h.is _ rfl).trans ((runQ_M rfl).trans (by kernel_rfl))
def f40_b0 : AC :=
 (.seq (.seq (rg [oo 6 (.mv (.t 5)),
  oo 7 (.mv (.t 0)),
  oo 8 (.len false (.t 7)),
  oo 9 (.bin .lss (.t 6) (.t 8))])
 (.cond (.t 9) .skip (.exit 0)))
 (.seq (.block 1 (.seq (rg [oo 12 (.mv (.t 0)),
  oo 13 (.mv (.t 5)),
  oo 14 (.mv (.t 1)),
  oo 15 (.iaddr 2 (.t 12) (.t 13)),
  oo 16 (.faddr 0 0 (.t 15)),
  ⟨none, .store 1 (.t 16) (.t 14), none⟩])
 (.seq (rg [oo 17 (.mv (.t 1)),
  oo 18 (.bin .add (.t 17) (ci 1)),
  oo 1 (.mv (.t 18))])
 (.seq (rg [oo 19 (.mv (.t 0)),
  oo 20 (.mv (.t 5)),
  oo 21 (.mv (.t 1)),
  oo 22 (.iaddr 2 (.t 19) (.t 20)),
  oo 23 (.faddr 1 1 (.t 22)),
  ⟨none, .store 1 (.t 23) (.t 21), none⟩])
 (rg [oo 24 (.mv (.t 1)),
  oo 25 (.bin .add (.t 24) (ci 1)),
  oo 1 (.mv (.t 25))])))))
 (rg [oo 10 (.mv (.t 5)),
  oo 11 (.bin .add (.t 10) (ci 1)),
  oo 5 (.mv (.t 11))])))
def f40_r0 : AC :=
 (.seq (rg [oo 26 (.mv (.t 1)),
  oo 4 (.mv (.t 26))])
 .ret)
def f40_ac : AC :=
 (.seq (rg [oo 4 (.mv (ci 0))])
 (.seq (.seq (rg [oo 5 (.mv (ci 0))])
 (.block 0 (.loop ⟨[0, 1, 5], [], [(5000, true)]⟩ f40_b0)))
 f40_r0))
noncomputable def f40_l0 (E : Env) (x1 : U) (x5 : U) (b5000 : List U) : Option U := loopK (roundOf E ⟨[0, 1, 5], [], [(5000, true)]⟩ f40_b0 (blockK 0 (seqK (fun s => exec E f40_r0 s (finishM 2 [(4, none)])) (finishM 2 [(4, none)])))) ([.ref 5000 [] 2 none, .val x1, .val x5], [.vir (.own (.sl 2 b5000))])
theorem f40_l0_eq (E : Env) (x1 : U) (x5 : U) (b5000 : List U) : f40_l0 E x1 x5 b5000 =
 (U.bin .lss x5 (.int .i64 (b5000.length : Int))).bind fun t1 => U.asBool t1
 (U.asInt x5 fun n2 => if 2 = 2 ∧ 0 ≤ n2 ∧ n2 < (b5000.length : Int) then if storable (.val x1) = true ∧ x1.size = 1 then (b5000[(n2 : Int).toNat]?).bind fun e3 => U.asAgg e3 fun us4 => if 0 = sizes (us4.take 0) then (us4[0]?).bind fun e5 => if e5.size = 1 then if (x1 : U).flat = true then (U.bin .add x1 (.int .i64 1)).bind fun t6 => U.asInt x5 fun n7 => if 2 = 2 ∧ 0 ≤ n7 ∧ n7 < (((b5000.set (n2 : Int).toNat (.agg (us4.set 0 x1)))).length : Int) then if storable (.val t6) = true ∧ t6.size = 1 then ((b5000.set (n2 : Int).toNat (.agg (us4.set 0 x1)))[(n7 : Int).toNat]?).bind fun e8 => U.asAgg e8 fun us9 => if 1 = sizes (us9.take 1) then (us9[1]?).bind fun e10 => if e10.size = 1 then if (t6 : U).flat = true then (U.bin .add t6 (.int .i64 1)).bind fun t11 => (U.bin .add x5 (.int .i64 1)).bind fun t12 => f40_l0 E t11 t12 ((b5000.set (n2 : Int).toNat (.agg (us4.set 0 x1))).set (n7 : Int).toNat (.agg (us9.set 1 t6))) else none else none else none else none else none else none else none else none else none else none)
 (if (x1 : U).flat = true then some (.tup [x1, .sl 2 b5000]) else none) :=
 (loop_eq E _ _ _ _).trans (by kernel_rfl)
structure G_f40 (E : Env) : Prop where
  is : Is E 200232 2 f40_ac [(4, none)]
theorem f40_E {E : Env} (h : G_f40 E) (xs0 : List U) (a1 : U) : E 200232 (.agg [.tup [.sl 2 xs0]] :: [a1]) =
 f40_l0 E a1 (.int .i64 0) xs0 := (h.is _ rfl).trans ((runQ_M rfl).trans (by kernel_rfl))
def f24_r2 : AC :=
 (rg [oo 16 (.mv (.t 74))])
def f24_r1 : AC :=
 (rg [oo 16 (.mv (.t 77))])
def f24_r0 : AC :=
 (rg [oo 17 (.mv (.t 93))])
def f24_ac : AC :=
 (.seq (rg [oo 4 (.box false 4 (.t 0)),
  oo 5 (.box false 5 (.t 1)),
  oo 8 (.mv (.c (.bool false)))])
 (.seq (rg [oo 9 (.mv (ci 1048576))])
 (.seq (rg [oo 21 (.load true 1 (.t 4)),
  oo 22 (.mv (.t 9)),
  oo 23 (.call false 99 [(.t 21), (.t 22)]),
  oo 9 (.mv (.t 23))])
 (.seq (.seq (rg [oo 24 (.mv (.t 9)),
  oo 25 (.bin .lss (.t 24) (ci 0))])
 (.cond (.t 25) (.seq (rg [oo 8 (.mv (.c (.bool true)))])
 .ret) .skip))
 (.seq (rg [oo 26 (.load true 9 (.t 5)),
  oo 27 (.mv (.t 9)),
  oo 28 (.call false 132 [(.t 26), (.t 27)]),
  oo 9 (.mv (.t 28))])
 (.seq (.seq (rg [oo 29 (.mv (.t 9)),
  oo 30 (.bin .lss (.t 29) (ci 0))])
 (.cond (.t 30) (.seq (rg [oo 8 (.mv (.c (.bool true)))])
 .ret) .skip))
 (.seq (.regN 12 [10] [(0, 10), (1, 10), (2, 10), (3, 10), (4, 10), (5, 10), (6, 10), (7, 10), (8, 10), (9, 10)] [(.t 4), (.t 5)] [oo 32 (.load true 1 (.t 4)),
  oo 33 (.call false 93 [(.t 32)]),
  oo 34 (.load true 9 (.t 5)),
  oo 35 (.call false 145 [(.t 34)]),
  oo 36 (.mv (.t 2)),
  oo 37 (.mv (.t 3)),
  oo 38 (.call false 335 [(.t 33), (.t 35), (.t 36), (.t 37)]),
  oo 31 (.mv (.t 38)),
  oo 39 (.extract 0 (.t 31)),
  oo 40 (.extract 1 (.t 31)),
  oo 10 (.alloc 10 (.agg [(.int .i64 0), (.int .i64 0), (.int .i64 0), (.int .i64 0), (.int .i64 0), (.int .i64 0), (.int .i64 0), (.nsl 2), (.nsl 2)])),
  ⟨none, .storeN 10 9 (.t 10) (.t 39), none⟩,
  oo 11 (.mv (.t 40))])
 (.seq (rg [oo 41 (.load true 1 (.t 4)),
  oo 42 (.callF 42 false [(.agg [(.sl 1)])] 93 [(.t 41)]),
  oo 12 (.alloc 12 (.agg [(.nsl 1)])),
  ⟨none, .storeM 3000 1 (.t 12) (.t 42), none⟩])
 (.seq (rg [oo 43 (.load true 9 (.t 5)),
  oo 44 (.callF 44 false [(.agg [.int, .int, .int, .int, .int, .int, .int, (.sl 2), (.sl 2)])] 145 [(.t 43)]),
  oo 13 (.alloc 13 (.agg [(.int .i64 0), (.int .i64 0), (.int .i64 0), (.int .i64 0), (.int .i64 0), (.int .i64 0), (.int .i64 0), (.nsl 2), (.nsl 2)])),
  ⟨none, .storeM 3001 9 (.t 13) (.t 44), none⟩])
 (.seq (rg [oo 46 (.loadO (.agg [(.sl 1)]) (.t 12)),
  oo 47 (.loadO (.agg [.int, .int, .int, .int, .int, .int, .int, (.sl 2), (.sl 2)]) (.t 13)),
  oo 48 (.mv (.t 2)),
  oo 49 (.mv (.t 3)),
  oo 50 (.callF 50 true [(.agg [.int, .int, .int, .int, .int, .int, .int, (.sl 2), (.sl 2)]), .bool] 334 [(.t 46), (.t 47), (.t 48), (.t 49)]),
  oo 45 (.mv (.t 50)),
  oo 51 (.extract 0 (.t 45)),
  oo 52 (.extract 1 (.t 45)),
  oo 14 (.alloc 14 (.agg [(.int .i64 0), (.int .i64 0), (.int .i64 0), (.int .i64 0), (.int .i64 0), (.int .i64 0), (.int .i64 0), (.nsl 2), (.nsl 2)])),
  ⟨none, .storeM 3002 9 (.t 14) (.t 51), none⟩,
  oo 15 (.mv (.t 52))])
 (.seq (.seq (rg [oo 53 (.loadO (.agg [.int, .int, .int, .int, .int, .int, .int, (.sl 2), (.sl 2)]) (.t 14)),
  oo 54 (.load true 9 (.t 10)),
  oo 55 (.call false 177 [(.t 53), (.t 54)]),
  oo 56 (.un .not (.t 55)),
  oo 57 (.mv (.t 56)),
  ⟨some 58, .mv (.t 15), some (57, false)⟩,
  ⟨some 59, .mv (.t 11), some (57, false)⟩,
  ⟨some 60, .eqv true 0 (.t 58) (.t 59), some (57, false)⟩,
  oo 61 (.pick (.t 57) (.c (.bool true)) (.t 60))])
 (.cond (.t 61) (.seq (rg [oo 8 (.mv (.c (.bool false)))])
 .ret) .skip))
 (.seq (.seq (.region 5 [oo 62 (.loadO (.agg [(.sl 1)]) (.t 12)),
  oo 63 (.load true 1 (.t 4)),
  oo 64 (.call false 93 [(.t 63)]),
  oo 65 (.call false 97 [(.t 62), (.t 64)]),
  oo 66 (.un .not (.t 65))])
 (.cond (.t 66) (.seq (rg [oo 8 (.mv (.c (.bool false)))])
 .ret) .skip))
 (.seq (.seq (.region 5 [oo 67 (.loadO (.agg [.int, .int, .int, .int, .int, .int, .int, (.sl 2), (.sl 2)]) (.t 13)),
  oo 68 (.load true 9 (.t 5)),
  oo 69 (.call false 145 [(.t 68)]),
  oo 70 (.call false 177 [(.t 67), (.t 69)]),
  oo 71 (.un .not (.t 70))])
 (.cond (.t 71) (.seq (rg [oo 8 (.mv (.c (.bool false)))])
 .ret) .skip))
 (.seq (rg [oo 16 (.mv (ci 1))])
 (.seq (.regI 0 [oo 72 (.loadO (.agg [(.sl 1)]) (.t 12)),
  oo 73 (.mv (.t 16))] ⟨some 74, 129, 10, 96, [(.t 72), (.t 73)], [4]⟩ (.seq (rg [oo 131 (.boxS 131 (.t 129)),
  oo 133 (.mv (ci 0))])
 (.seq (rg [oo 134 (.faddr 0 0 (.t 131)),
  oo 135 (.load false 1 (.t 134)),
  oo 136 (.mv (.t 130)),
  oo 137 (.callM 1 121 (.t 135) [(.t 136)]),
  oo 130 (.mv (.t 137))])
 (.seq (rg [oo 138 (.mv (.t 130)),
  oo 133 (.mv (.t 138))])
 .ret))) f24_r2)
 (.seq (.regI 0 [oo 75 (.loadO (.agg [.int, .int, .int, .int, .int, .int, .int, (.sl 2), (.sl 2)]) (.t 13)),
  oo 76 (.mv (.t 16))] ⟨some 77, 129, 14, 208, [(.t 75), (.t 76)], [4]⟩ (.seq (rg [oo 131 (.boxS 131 (.t 129)),
  oo 133 (.mv (ci 0))])
 (.seq (rg [oo 134 (.faddr 7 7 (.t 131)),
  oo 135 (.load false 1 (.t 134)),
  oo 136 (.mv (.t 130)),
  oo 137 (.callM 2 95 (.t 135) [(.t 136)]),
  oo 130 (.mv (.t 137))])
 (.seq (rg [oo 138 (.faddr 8 8 (.t 131)),
  oo 139 (.load false 1 (.t 138)),
  oo 140 (.mv (.t 130)),
  oo 141 (.callM 2 232 (.t 139) [(.t 140)]),
  oo 130 (.mv (.t 141))])
 (.seq (rg [oo 142 (.mv (.t 130)),
  oo 133 (.mv (.t 142))])
 .ret)))) f24_r1)
 (.seq (.seq (rg [oo 78 (.mv (.t 16)),
  oo 79 (.bin .lss (.t 78) (ci 0)),
  oo 80 (.mv (.t 79)),
  ⟨some 81, .loadO (.agg [.int, .int, .int, .int, .int, .int, .int, (.sl 2), (.sl 2)]) (.t 14), some (80, false)⟩,
  ⟨some 82, .load true 9 (.t 10), some (80, false)⟩,
  ⟨some 83, .call false 177 [(.t 81), (.t 82)], some (80, false)⟩,
  ⟨some 84, .un .not (.t 83), some (80, false)⟩,
  oo 85 (.pick (.t 80) (.c (.bool true)) (.t 84)),
  oo 86 (.mv (.t 85)),
  ⟨some 87, .mv (.t 15), some (86, false)⟩,
  ⟨some 88, .mv (.t 11), some (86, false)⟩,
  ⟨some 89, .eqv true 0 (.t 87) (.t 88), some (86, false)⟩,
  oo 90 (.pick (.t 86) (.c (.bool true)) (.t 89))])
 (.cond (.t 90) (.seq (rg [oo 8 (.mv (.c (.bool false)))])
 .ret) .skip))
 (.seq (rg [oo 17 (.mv (ci 1))])
 (.seq (.regI 0 [oo 91 (.loadO (.agg [.int, .int, .int, .int, .int, .int, .int, (.sl 2), (.sl 2)]) (.t 14)),
  oo 92 (.mv (.t 17))] ⟨some 93, 129, 14, 208, [(.t 91), (.t 92)], [4]⟩ (.seq (rg [oo 131 (.boxS 131 (.t 129)),
  oo 133 (.mv (ci 0))])
 (.seq (rg [oo 134 (.faddr 7 7 (.t 131)),
  oo 135 (.load false 1 (.t 134)),
  oo 136 (.mv (.t 130)),
  oo 137 (.callM 2 95 (.t 135) [(.t 136)]),
  oo 130 (.mv (.t 137))])
 (.seq (rg [oo 138 (.faddr 8 8 (.t 131)),
  oo 139 (.load false 1 (.t 138)),
  oo 140 (.mv (.t 130)),
  oo 141 (.callM 2 232 (.t 139) [(.t 140)]),
  oo 130 (.mv (.t 141))])
 (.seq (rg [oo 142 (.mv (.t 130)),
  oo 133 (.mv (.t 142))])
 .ret)))) f24_r0)
 (.seq (rg [oo 18 (.mv (ci 1))])
 (.seq (rg [oo 94 (.loadO (.agg [.int, .int, .int, .int, .int, .int, .int, (.sl 2), (.sl 2)]) (.t 14)),
  oo 95 (.mv (.t 18)),
  oo 96 (.call false 205 [(.t 94), (.t 95)]),
  oo 18 (.mv (.t 96))])
 (.seq (.seq (rg [oo 97 (.mv (.t 18)),
  oo 98 (.bin .lss (.t 97) (ci 0))])
 (.cond (.t 98) (.seq (rg [oo 8 (.mv (.c (.bool false)))])
 .ret) .skip))
 (.seq (.seq (rg [oo 99 (.mv (.t 18)),
  oo 100 (.mv (.t 17)),
  oo 101 (.bin .neq (.t 99) (.t 100))])
 (.cond (.t 101) (.seq (rg [oo 8 (.mv (.c (.bool false)))])
 .ret) .skip))
 (.seq (.regN 12 [19] [(0, 19), (1, 19), (2, 19), (3, 19), (4, 19), (5, 19), (6, 19), (7, 19), (8, 19), (9, 19)] [(.t 4), (.t 5)] [oo 103 (.load true 1 (.t 4)),
  oo 104 (.call false 93 [(.t 103)]),
  oo 105 (.load true 9 (.t 5)),
  oo 106 (.call false 145 [(.t 105)]),
  oo 107 (.mv (.t 2)),
  oo 108 (.mv (.t 3)),
  oo 109 (.call false 334 [(.t 104), (.t 106), (.t 107), (.t 108)]),
  oo 102 (.mv (.t 109)),
  oo 110 (.extract 0 (.t 102)),
  oo 111 (.extract 1 (.t 102)),
  oo 19 (.alloc 19 (.agg [(.int .i64 0), (.int .i64 0), (.int .i64 0), (.int .i64 0), (.int .i64 0), (.int .i64 0), (.int .i64 0), (.nsl 2), (.nsl 2)])),
  ⟨none, .storeN 19 9 (.t 19) (.t 110), none⟩,
  oo 20 (.mv (.t 111))])
 (.seq (.seq (rg [oo 112 (.load true 9 (.t 19)),
  oo 113 (.load true 9 (.t 10)),
  oo 114 (.call false 177 [(.t 112), (.t 113)]),
  oo 115 (.un .not (.t 114)),
  oo 116 (.mv (.t 115)),
  ⟨some 117, .mv (.t 20), some (116, false)⟩,
  ⟨some 118, .mv (.t 11), some (116, false)⟩,
  ⟨some 119, .eqv true 0 (.t 117) (.t 118), some (116, false)⟩,
  oo 120 (.pick (.t 116) (.c (.bool true)) (.t 119))])
 (.cond (.t 120) (.seq (rg [oo 8 (.mv (.c (.bool false)))])
 .ret) .skip))
 (.seq (rg [oo 18 (.mv (ci 1))])
 (.seq (rg [oo 121 (.loadO (.agg [.int, .int, .int, .int, .int, .int, .int, (.sl 2), (.sl 2)]) (.t 14)),
  oo 122 (.mv (.t 18)),
  oo 123 (.call false 205 [(.t 121), (.t 122)]),
  oo 18 (.mv (.t 123))])
 (.seq (.seq (rg [oo 124 (.mv (.t 18)),
  oo 125 (.bin .lss (.t 124) (ci 0))])
 (.cond (.t 125) (.seq (rg [oo 8 (.mv (.c (.bool false)))])
 .ret) .skip))
 (.seq (.seq (rg [oo 126 (.mv (.t 18)),
  oo 127 (.mv (.t 17)),
  oo 128 (.bin .neq (.t 126) (.t 127))])
 (.cond (.t 128) (.seq (rg [oo 8 (.mv (.c (.bool false)))])
 .ret) .skip))
 (.seq (rg [oo 8 (.mv (.c (.bool true)))])
 .ret))))))))))))))))))))))))))))))
structure G_f24 (E : Env) : Prop where
  is : Is E 333 4 f24_ac [(8, none)]
  c_f42 : G_f42 E
  c_f43 : G_f43 E
  c_f72 : G_f72 E
  c_f50 : G_f50 E
  c_f52 : G_f52 E
  c_f10 : G_f10 E
  c_f28 : G_f28 E
  c_f27 : G_f27 E
  c_f35 : G_f35 E
  c_f51 : G_f51 E
  c_f53 : G_f53 E
  c_f11 : G_f11 E
  c_f38 : G_f38 E
  c_f37 : G_f37 E
  c_f40 : G_f40 E
theorem f24_E {E : Env} (h : G_f24 E) (a0 a1 a2 a3 : U) : E 333 [a0, a1, a2, a3] =
 U.noTup a0 fun x1 => U.noTup a1 fun x2 => U.asVar true 1 x1 fun e3 => (E 99 [e3, (.int .i64 1048576)]).bind fun t4 => (U.bin .lss t4 (.int .i64 0)).bind fun t5 => U.asBool t5
 (some (.bool true))
 (U.asVar true 9 x2 fun e6 => (E 132 [e6, t4]).bind fun t7 => (U.bin .lss t7 (.int .i64 0)).bind fun t8 => U.asBool t8
 (some (.bool true))
 (U.asVar true 1 x1 fun e9 => (E 93 [e9]).bind fun t10 => U.asVar true 9 x2 fun e11 => (E 145 [e11]).bind fun t12 => (E 335 [t10, t12, a2, a3]).bind fun t13 => U.part 0 t13 fun p14 => U.part 1 t13 fun p15 => U.noTup p14 fun x16 => if x16.size = 9 then U.asVar true 1 x1 fun e17 => (E 100093 [e17]).bind fun t18 => U.noTup t18 fun x19 => U.asAgg x19 fun us20 => (match us20 with
 | u21 :: us22 => (U.asSlK 1 u21 fun us23 => (match us22 with
 | [] => (U.asVar true 9 x2 fun e24 => (E 100145 [e24]).bind fun t25 => U.noTup t25 fun x26 => U.asAgg x26 fun us27 => (match us27 with
 | u28 :: us29 => (U.asInt u28 fun n30 => (match us29 with
 | u31 :: us32 => (U.asInt u31 fun n33 => (match us32 with
 | u34 :: us35 => (U.asInt u34 fun n36 => (match us35 with
 | u37 :: us38 => (U.asInt u37 fun n39 => (match us38 with
 | u40 :: us41 => (U.asInt u40 fun n42 => (match us41 with
 | u43 :: us44 => (U.asInt u43 fun n45 => (match us44 with
 | u46 :: us47 => (U.asInt u46 fun n48 => (match us47 with
 | u49 :: us50 => (U.asSlK 2 u49 fun us51 => (match us50 with
 | u52 :: us53 => (U.asSlK 2 u52 fun us54 => (match us53 with
 | [] => ((E 100334 [(.agg [(.sl 1 us23)]), (.agg [(.int .i64 n30), (.int .i64 n33), (.int .i64 n36), (.int .i64 n39), (.int .i64 n42), (.int .i64 n45), (.int .i64 n48), (.sl 2 us51), (.sl 2 us54)]), a2, a3]).bind fun t55 => U.asTup t55 fun us56 => (match us56 with
 | u57 :: us58 => (U.asAgg u57 fun us59 => (match us59 with
 | u60 :: us61 => (U.asInt u60 fun n62 => (match us61 with
 | u63 :: us64 => (U.asInt u63 fun n65 => (match us64 with
 | u66 :: us67 => (U.asInt u66 fun n68 => (match us67 with
 | u69 :: us70 => (U.asInt u69 fun n71 => (match us70 with
 | u72 :: us73 => (U.asInt u72 fun n74 => (match us73 with
 | u75 :: us76 => (U.asInt u75 fun n77 => (match us76 with
 | u78 :: us79 => (U.asInt u78 fun n80 => (match us79 with
 | u81 :: us82 => (U.asSlK 2 u81 fun us83 => (match us82 with
 | u84 :: us85 => (U.asSlK 2 u84 fun us86 => (match us85 with
 | [] => ((match us58 with
 | u87 :: us88 => (U.asB u87 fun b89 => (match us88 with
 | [] => (U.asVar true 9 x16 fun e90 => (E 177 [(.agg [(.int .i64 n62), (.int .i64 n65), (.int .i64 n68), (.int .i64 n71), (.int .i64 n74), (.int .i64 n77), (.int .i64 n80), (.sl 2 us83), (.sl 2 us86)]), e90]).bind fun t91 => U.asFlat t91 fun t92 => (U.un .not t92).bind fun t93 => U.asBool t93
 (some (.bool false))
 ((U.eqv 0 (.bool b89) p15).bind fun q94 => U.asBool (.bool (!q94))
 (some (.bool false))
 (U.asVar true 1 x1 fun e95 => (E 93 [e95]).bind fun t96 => (E 97 [(.agg [(.sl 1 us23)]), t96]).bind fun t97 => U.asFlat t97 fun t98 => (U.un .not t98).bind fun t99 => U.asBool t99
 (some (.bool false))
 (U.asVar true 9 x2 fun e100 => (E 145 [e100]).bind fun t101 => (E 177 [(.agg [(.int .i64 n30), (.int .i64 n33), (.int .i64 n36), (.int .i64 n39), (.int .i64 n42), (.int .i64 n45), (.int .i64 n48), (.sl 2 us51), (.sl 2 us54)]), t101]).bind fun t102 => U.asFlat t102 fun t103 => (U.un .not t103).bind fun t104 => U.asBool t104
 (some (.bool false))
 ((E 200121 (.agg [.tup [.sl 1 us23]] :: [(.int .i64 1)])).bind fun t105 => U.asMut 1 t105 fun y106 ys107 => U.asFlat y106 fun y106 => if partable (.val y106) = true then (E 200095 (.agg [.tup [.sl 2 us51]] :: [y106])).bind fun t108 => U.asMut 2 t108 fun y109 ys110 => U.asFlat y109 fun y109 => (E 200232 (.agg [.tup [.sl 2 us54]] :: [y109])).bind fun t111 => U.asMut 2 t111 fun y112 ys113 => U.asFlat y112 fun y112 => if partable (.val y112) = true then (U.bin .lss y112 (.int .i64 0)).bind fun t114 => U.asBool t114
 (some (.bool false))
 (U.asVar true 9 x16 fun e115 => (E 177 [(.agg [(.int .i64 n62), (.int .i64 n65), (.int .i64 n68), (.int .i64 n71), (.int .i64 n74), (.int .i64 n77), (.int .i64 n80), (.sl 2 us83), (.sl 2 us86)]), e115]).bind fun t116 => U.asFlat t116 fun t117 => (U.un .not t117).bind fun t118 => U.asBool t118
 (some (.bool false))
 ((U.eqv 0 (.bool b89) p15).bind fun q119 => U.asBool (.bool (!q119))
 (some (.bool false))
 ((E 200095 (.agg [.tup [.sl 2 us83]] :: [(.int .i64 1)])).bind fun t120 => U.asMut 2 t120 fun y121 ys122 => U.asFlat y121 fun y121 => (E 200232 (.agg [.tup [.sl 2 us86]] :: [y121])).bind fun t123 => U.asMut 2 t123 fun y124 ys125 => U.asFlat y124 fun y124 => if partable (.val y124) = true then (E 205 [(.agg [(.int .i64 n62), (.int .i64 n65), (.int .i64 n68), (.int .i64 n71), (.int .i64 n74), (.int .i64 n77), (.int .i64 n80), (.sl 2 ys122), (.sl 2 ys125)]), (.int .i64 1)]).bind fun t126 => U.asFlat t126 fun t127 => (U.bin .lss t127 (.int .i64 0)).bind fun t128 => U.asBool t128
 (some (.bool false))
 ((U.bin .neq t127 y124).bind fun t129 => U.asBool t129
 (some (.bool false))
 (U.asVar true 1 x1 fun e130 => (E 93 [e130]).bind fun t131 => U.asVar true 9 x2 fun e132 => (E 145 [e132]).bind fun t133 => (E 334 [t131, t133, a2, a3]).bind fun t134 => U.part 0 t134 fun p135 => U.part 1 t134 fun p136 => U.noTup p135 fun x137 => if x137.size = 9 then U.asVar true 9 x137 fun e138 => U.asVar true 9 x16 fun e139 => (E 177 [e138, e139]).bind fun t140 => (U.un .not t140).bind fun t141 => U.asBool t141
 (some (.bool false))
 ((U.eqv 0 p136 p15).bind fun q142 => U.asBool (.bool (!q142))
 (some (.bool false))
 ((E 205 [(.agg [(.int .i64 n62), (.int .i64 n65), (.int .i64 n68), (.int .i64 n71), (.int .i64 n74), (.int .i64 n77), (.int .i64 n80), (.sl 2 ys122), (.sl 2 ys125)]), (.int .i64 1)]).bind fun t143 => U.asFlat t143 fun t144 => (U.bin .lss t144 (.int .i64 0)).bind fun t145 => U.asBool t145
 (some (.bool false))
 ((U.bin .neq t144 y124).bind fun t146 => U.asBool t146
 (some (.bool false))
 (some (.bool true))))) else none)) else none))) else none else none)))))
 | _ => none))
 | [] => none))
 | _ => none))
 | [] => none))
 | [] => none))
 | [] => none))
 | [] => none))
 | [] => none))
 | [] => none))
 | [] => none))
 | [] => none))
 | [] => none))
 | [] => none))
 | _ => none))
 | [] => none))
 | [] => none))
 | [] => none))
 | [] => none))
 | [] => none))
 | [] => none))
 | [] => none))
 | [] => none))
 | [] => none))
 | _ => none))
 | [] => none) else none)) := (h.is _ rfl).trans ((runQ_V rfl).trans (by kernel_rfl))
end Go.Proofs.Ytpbogagoflpdfaa.Am

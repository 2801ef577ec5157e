import Derived.Test.YtlgblpngiamhaaaChecked
import Derived.KernelRfl
import Derived.Deep.RegionWith
import Derived.Shelf.RegionOpenPlain
import Derived.Test.YtlgblpngiamhaaaAmW
import Derived.Test.YtlgblpngiamhaaaAddReaderF0
import Derived.Test.YtlgblpngiamhaaaAmCl
import Derived.Test.YtlgblpngiamhaaaAddReaderP0
namespace Go.Proofs.Ytlgblpngiamhaaa.Am.FnExactAddReader
open Go Go.Proofs
set_option linter.unusedVariables false
set_option maxRecDepth 100000
def rho (m : Nat) : FuncId := match [(6, 67), (9, 104), (10, 102), (11, 72), (13, 121), (14, 120), (15, 127), (23, 47), (24, 46), (27, 51), (28, 50), (29, 90), (30, 91), (33, 60), (34, 59), (35, 98), (36, 99), (45, 8), (46, 11), (49, 6), (50, 13), (51, 15), (52, 43), (53, 87), (54, 41), (55, 86), (56, 17), (70, 66), (71, 100), (72, 115), (73, 116), (74, 117), (75, 106), (76, 103), (92, 63), (224, 96), (225, 97), (235, 64), (241, 31), (243, 49), (244, 76), (245, 89), (247, 53), (249, 93), (250, 92), (251, 36), (252, 83), (253, 54), (284, 4), (285, 20), (286, 16), (289, 14), (290, 48), (294, 55), (100027, 51), (100028, 50), (100045, 8), (100051, 15), (100224, 96), (100225, 97), (100286, 16), (100292, 58), (100295, 52), (200095, 61), (200232, 62), (200287, 18)].lookup m with | some f => f | none => 0
theorem f63_match : matchFn Try.prog rho 24 2 f63_ac [(4, none)] = true := by kernel_rfl
theorem f64_match : matchFn Try.prog rho 23 2 f64_ac [(4, none)] = true := by kernel_rfl
theorem f61_match : matchFn Try.prog rho 50 2 f61_ac [(4, none)] = true := by kernel_rfl
theorem f62_match : matchFn Try.prog rho 49 2 f62_ac [(4, none)] = true := by kernel_rfl
theorem f69_match : matchFn Try.prog rho 29 1 f69_ac [(2, some (true, 2))] = true := by kernel_rfl
theorem f70_match : matchFn Try.prog rho 28 1 f70_ac [(2, none)] = true := by kernel_rfl
theorem f72_match : matchFn Try.prog rho 30 1 f72_ac [(2, some (true, 2))] = true := by kernel_rfl
theorem f73_match : matchFn Try.prog rho 27 1 f73_ac [(2, none)] = true := by kernel_rfl
theorem f65_match : matchFn Try.prog rho 51 1 f65_ac [(2, some (true, 4))] = true := by kernel_rfl
theorem f66_match : matchFn Try.prog rho 45 1 f66_ac [(2, none)] = true := by kernel_rfl
theorem f51_match : matchFn Try.prog rho 35 2 f51_ac [(4, none)] = true := by kernel_rfl
theorem f52_match : matchFn Try.prog rho 34 2 f52_ac [(4, none)] = true := by kernel_rfl
theorem f53_match : matchFn Try.prog rho 36 2 f53_ac [(4, none)] = true := by kernel_rfl
theorem f54_match : matchFn Try.prog rho 33 2 f54_ac [(4, none)] = true := by kernel_rfl
theorem f49_match : matchFn Try.prog rho 56 2 f49_ac [(4, none)] = true := by kernel_rfl
theorem f50_match : matchFn Try.prog rho 46 2 f50_ac [(4, none)] = true := by kernel_rfl
theorem f108_match : matchFn Try.prog rho 290 1 f108_ac [(2, some (true, 4))] = true := by kernel_rfl
theorem f93_match : matchFn Try.prog rho 241 2 f93_ac [(4, none)] = true := by kernel_rfl
theorem f110_match : matchFn Try.prog rho 6 3 f110_ac [(6, none)] = true := by kernel_rfl
theorem f111_match : matchFn Try.prog rho 71 2 f111_ac [(4, none)] = true := by kernel_rfl
theorem f101_match : matchFn Try.prog rho 70 1 f101_ac [(2, none)] = true := by kernel_rfl
theorem f106_match : matchFn Try.prog rho 244 2 f106_ac [(4, none)] = true := by kernel_rfl
theorem f109_match : matchFn Try.prog rho 245 1 f109_ac [(2, some (true, 9))] = true := by kernel_rfl
theorem f97_match : matchFn Try.prog rho 243 1 f97_ac [(2, none)] = true := by kernel_rfl
theorem f90_match : matchFn Try.prog rho 289 2 f90_ac [(4, none), (5, none)] = true := by kernel_rfl
theorem f88_match : matchFn Try.prog rho 253 2 f88_ac [(4, none)] = true := by kernel_rfl
theorem f11_match : matchFn Try.prog rho 252 2 f11_ac [(3, none)] = true := by kernel_rfl
theorem f10_match : matchFn Try.prog rho 251 2 f10_ac [(4, none)] = true := by kernel_rfl
theorem f42_match : matchFn Try.prog rho 10 3 f42_ac [(6, none)] = true := by kernel_rfl
theorem f44_match : matchFn Try.prog rho 9 1 f44_ac [(2, none)] = true := by kernel_rfl
theorem f20_match : matchFn Try.prog rho 72 1 f20_ac [(2, none)] = true := by kernel_rfl
theorem f45_match : matchFn Try.prog rho 11 1 f45_ac [(2, none)] = true := by kernel_rfl
theorem f1_match : matchFn Try.prog rho 14 1 f1_ac [(2, none)] = true := by kernel_rfl
theorem f2_match : matchFn Try.prog rho 15 1 f2_ac [(2, none)] = true := by kernel_rfl
theorem f0_match : matchFn Try.prog rho 13 2 f0_ac [(4, none)] = true := by kernel_rfl
theorem f39_match : matchFn Try.prog rho 75 2 f39_ac [(4, none)] = true := by kernel_rfl
theorem f37_match : matchFn Try.prog rho 73 1 f37_ac [(2, none)] = true := by kernel_rfl
theorem f47_match : matchFn Try.prog rho 76 1 f47_ac [(2, none)] = true := by kernel_rfl
theorem f38_match : matchFn Try.prog rho 74 1 f38_ac [(2, none)] = true := by kernel_rfl
theorem f43_match : matchFn Try.prog rho 250 1 f43_ac [(2, none)] = true := by kernel_rfl
theorem f89_match : matchFn Try.prog rho 55 2 f89_ac [(4, none)] = true := by kernel_rfl
theorem f81_match : matchFn Try.prog rho 54 2 f81_ac [(4, none)] = true := by kernel_rfl
theorem f9_match : matchFn Try.prog rho 53 2 f9_ac [(3, none)] = true := by kernel_rfl
theorem f8_match : matchFn Try.prog rho 52 2 f8_ac [(4, none)] = true := by kernel_rfl
theorem f36_match : matchFn Try.prog rho 249 2 f36_ac [(4, none)] = true := by kernel_rfl
theorem f19_match : matchFn Try.prog rho 247 1 f19_ac [(2, none)] = true := by kernel_rfl
theorem f3_match : matchFn Try.prog rho 294 2 f3_ac [(3, none)] = true := by kernel_rfl
theorem f40_match : matchFn Try.prog rho 100292 1 f40_ac [(2, some (true, 4))] = true := by kernel_rfl
theorem f41_match : matchFn Try.prog rho 100295 1 f41_ac [(2, none)] = true := by kernel_rfl
theorem f56_match : matchFn Try.prog rho 92 2 f56_ac [(4, none)] = true := by kernel_rfl
theorem f57_match : matchFn Try.prog rho 235 2 f57_ac [(4, none)] = true := by kernel_rfl
theorem f55_match : matchFn Try.prog rho 285 2 f55_ac [(4, none)] = true := by kernel_rfl
theorem f71_match : matchFn Try.prog rho 100028 1 f71_ac [(2, none)] = true := by kernel_rfl
theorem f74_match : matchFn Try.prog rho 100027 1 f74_ac [(2, none)] = true := by kernel_rfl
theorem f68_match : matchFn Try.prog rho 100051 1 f68_ac [(2, some (true, 4))] = true := by kernel_rfl
theorem f67_match : matchFn Try.prog rho 100045 1 f67_ac [(2, none)] = true := by kernel_rfl
theorem f59_match : matchFn Try.prog rho 200095 2 f59_ac [(4, none)] = true := by kernel_rfl
theorem f60_match : matchFn Try.prog rho 200232 2 f60_ac [(4, none)] = true := by kernel_rfl
theorem f58_match : matchFn Try.prog rho 200287 2 f58_ac [(4, none)] = true := by kernel_rfl
theorem f48_match : matchFn Try.prog rho 284 2 f48_ac [(4, none)] = true := by kernel_rfl
def tbl : List (Nat × Fn) := [(24, ⟨2, f63_ac, [(4, none)]⟩),
  (23, ⟨2, f64_ac, [(4, none)]⟩),
  (50, ⟨2, f61_ac, [(4, none)]⟩),
  (49, ⟨2, f62_ac, [(4, none)]⟩),
  (29, ⟨1, f69_ac, [(2, some (true, 2))]⟩),
  (28, ⟨1, f70_ac, [(2, none)]⟩),
  (30, ⟨1, f72_ac, [(2, some (true, 2))]⟩),
  (27, ⟨1, f73_ac, [(2, none)]⟩),
  (51, ⟨1, f65_ac, [(2, some (true, 4))]⟩),
  (45, ⟨1, f66_ac, [(2, none)]⟩),
  (35, ⟨2, f51_ac, [(4, none)]⟩),
  (34, ⟨2, f52_ac, [(4, none)]⟩),
  (36, ⟨2, f53_ac, [(4, none)]⟩),
  (33, ⟨2, f54_ac, [(4, none)]⟩),
  (56, ⟨2, f49_ac, [(4, none)]⟩),
  (46, ⟨2, f50_ac, [(4, none)]⟩),
  (290, ⟨1, f108_ac, [(2, some (true, 4))]⟩),
  (241, ⟨2, f93_ac, [(4, none)]⟩),
  (6, ⟨3, f110_ac, [(6, none)]⟩),
  (71, ⟨2, f111_ac, [(4, none)]⟩),
  (70, ⟨1, f101_ac, [(2, none)]⟩),
  (244, ⟨2, f106_ac, [(4, none)]⟩),
  (245, ⟨1, f109_ac, [(2, some (true, 9))]⟩),
  (243, ⟨1, f97_ac, [(2, none)]⟩),
  (289, ⟨2, f90_ac, [(4, none), (5, none)]⟩),
  (253, ⟨2, f88_ac, [(4, none)]⟩),
  (252, ⟨2, f11_ac, [(3, none)]⟩),
  (251, ⟨2, f10_ac, [(4, none)]⟩),
  (10, ⟨3, f42_ac, [(6, none)]⟩),
  (9, ⟨1, f44_ac, [(2, none)]⟩),
  (72, ⟨1, f20_ac, [(2, none)]⟩),
  (11, ⟨1, f45_ac, [(2, none)]⟩),
  (14, ⟨1, f1_ac, [(2, none)]⟩),
  (15, ⟨1, f2_ac, [(2, none)]⟩),
  (13, ⟨2, f0_ac, [(4, none)]⟩),
  (75, ⟨2, f39_ac, [(4, none)]⟩),
  (73, ⟨1, f37_ac, [(2, none)]⟩),
  (76, ⟨1, f47_ac, [(2, none)]⟩),
  (74, ⟨1, f38_ac, [(2, none)]⟩),
  (250, ⟨1, f43_ac, [(2, none)]⟩),
  (55, ⟨2, f89_ac, [(4, none)]⟩),
  (54, ⟨2, f81_ac, [(4, none)]⟩),
  (53, ⟨2, f9_ac, [(3, none)]⟩),
  (52, ⟨2, f8_ac, [(4, none)]⟩),
  (249, ⟨2, f36_ac, [(4, none)]⟩),
  (247, ⟨1, f19_ac, [(2, none)]⟩),
  (294, ⟨2, f3_ac, [(3, none)]⟩),
  (100292, ⟨1, f40_ac, [(2, some (true, 4))]⟩),
  (100295, ⟨1, f41_ac, [(2, none)]⟩),
  (92, ⟨2, f56_ac, [(4, none)]⟩),
  (235, ⟨2, f57_ac, [(4, none)]⟩),
  (285, ⟨2, f55_ac, [(4, none)]⟩),
  (100028, ⟨1, f71_ac, [(2, none)]⟩),
  (100027, ⟨1, f74_ac, [(2, none)]⟩),
  (100051, ⟨1, f68_ac, [(2, some (true, 4))]⟩),
  (100045, ⟨1, f67_ac, [(2, none)]⟩),
  (200095, ⟨2, f59_ac, [(4, none)]⟩),
  (200232, ⟨2, f60_ac, [(4, none)]⟩),
  (200287, ⟨2, f58_ac, [(4, none)]⟩),
  (284, ⟨2, f48_ac, [(4, none)]⟩)]
theorem tbl_all : AllMatch Try.prog rho tbl := ⟨f63_match, f64_match, f61_match, f62_match, f69_match, f70_match, f72_match, f73_match, f65_match, f66_match, f51_match, f52_match, f53_match, f54_match, f49_match, f50_match, f108_match, f93_match, f110_match, f111_match, f101_match, f106_match, f109_match, f97_match, f90_match, f88_match, f11_match, f10_match, f42_match, f44_match, f20_match, f45_match, f1_match, f2_match, f0_match, f39_match, f37_match, f47_match, f38_match, f43_match, f89_match, f81_match, f9_match, f8_match, f36_match, f19_match, f3_match, f40_match, f41_match, f56_match, f57_match, f55_match, f71_match, f74_match, f68_match, f67_match, f59_match, f60_match, f58_match, f48_match, trivial⟩
theorem f75_mV : matchFn Try.prog rho 224 1 f75_ac [(2, none)] = true := by kernel_rfl
theorem f75_mF : matchFn Try.prog rho (100000 + 224) 1 f75_ac [(2, none)] = true := by kernel_rfl
theorem f76_mV : matchFn Try.prog rho 225 1 f76_ac [(2, none)] = true := by kernel_rfl
theorem f76_mF : matchFn Try.prog rho (100000 + 225) 1 f76_ac [(2, none)] = true := by kernel_rfl
def ctbl : List (Nat × Nat × Nat × AC) := [(224, 2, 16, f75_ac), (225, 2, 16, f76_ac)]
theorem ctbl_all : CloneAll Try.prog rho ctbl := ⟨by decide, f75_mV, f75_mF, f75_ok, by decide, f76_mV, f76_mF, f76_ok, trivial⟩
noncomputable def insEntR : Shelf.Ren := ⟨fun x => if x = 21 then 56 else if x = 27 then 94 else 95, fun x => if x = 22 then 26 else if x = 23 then 42 else if x = 3 then 3 else if x = 4 then 4 else 0, fun x => x⟩
noncomputable def insEntZ : Value := ((Try.prog.info? 42).bind fun i => i.zero).getD Go.undef
theorem insEntP : InsP Try.prog insEntR 4 64 insEntZ where
  mixed := by kernel_rfl
  f21 := ⟨Try.f56.name, Try.f56.targs, by kernel_rfl⟩
  f27 := ⟨Try.f94, by kernel_rfl, by kernel_rfl, by kernel_rfl, by kernel_rfl, by kernel_rfl⟩
  t3 := by kernel_rfl
  a3 := Try.isAgg3
  z3 := Try.sizeOf3
  t4 := by kernel_rfl
  t22 := by kernel_rfl
  a22 := Try.isAgg26
  z22 := Try.sizeOf26
  z23 := Try.sizeOf42
  i23 := by kernel_rfl
set_option maxHeartbeats 4000000 in
theorem cloneEnt_of {z : Value} (hzc : z.cells.size = 4) (t22 : Try.prog.underlying 26 = some (TypeDesc.slice 42)) (i23 : (Try.prog.info? 42).map (fun i => (i.zero, i.size, i.bytes)) = some (some z, 4, 64)) : CloneRaw Try.prog 57 4 64 where
  empty := fun a c w => by
    have t4 : Try.prog.underlying 4 = some TypeDesc.bool := by kernel_rfl
    have a22 := Try.isAgg26; have z22 := Try.sizeOf26; have z23 := Try.sizeOf42
    have q22 : ∀ (w : World) (a : Option Addr) (n c n' c' : Nat), (binOp .eql 26 (.slice a n c) (.slice none n' c')).run Try.prog w = .ok (.bool a.isNone) w := fun w a n c n' c' => Lib.run_eql_slice_nil w _ _ a n c n' c' t22
    have u22 : ∀ w, Sem.run Try.prog (underlying 26) w = .ok (TypeDesc.slice 42) w := run_underlying t22
    obtain ⟨i0, hi0, hz0, hzs, hzb⟩ := info_parts i23
    cases a with
    | none =>
      go_enter Try.func57, Try.ntmps57
      go_wp2
      go_ret
      exact ⟨_, rfl, .refl _ _⟩
    | some a =>
      obtain ⟨b, off, sp⟩ := a
      have hrun : ∀ ty, (Builtin.append_ #[26, 26] ty #[.slice (some ⟨w.heap.size, 0, none⟩) 0 0, .slice (some ⟨b, off, sp⟩) 0 c]).run Try.prog (w.alloc (.cells #[] 42 (0, 0))) = .ok (.slice (some ⟨w.heap.size, 0, none⟩) (0 + 0) 0) (w.alloc (.cells #[] 42 (0, 0))) := fun ty =>
        run_append_room_cells (P := Try.prog) _ 26 ty 42 i0 t22 hi0 w.heap.size 0 0 0 ⟨b, off, sp⟩ 0 c [] (by simp) (by simp) (by simp) (by simp) (by simp) (by simp)
      go_enter Try.func57, Try.ntmps57
      go_wp2_with (at_builtin; refine Lib.wpList_append_run _ rfl _ _ _ _ rfl _ _ rfl rfl _ _ (hrun _) ?_)
      go_ret
      exact ⟨_, rfl, (Below.refl _ _).alloc (Nat.le_refl _) _⟩
  more := fun b n c cs w hn hl hb hm hc h1 => by
    have t4 : Try.prog.underlying 4 = some TypeDesc.bool := by kernel_rfl
    have a22 := Try.isAgg26; have z22 := Try.sizeOf26; have z23 := Try.sizeOf42
    have q22 : ∀ (w : World) (a : Option Addr) (n c n' c' : Nat), (binOp .eql 26 (.slice a n c) (.slice none n' c')).run Try.prog w = .ok (.bool a.isNone) w := fun w a n c n' c' => Lib.run_eql_slice_nil w _ _ a n c n' c' t22
    have u22 : ∀ w, Sem.run Try.prog (underlying 26) w = .ok (TypeDesc.slice 42) w := run_underlying t22
    obtain ⟨i0, hi0, hz0, hzs, hzb⟩ := info_parts i23
    have hsrc : Src Try.prog i0.size 26 (.slice (some ⟨b, 0, none⟩) n c) n cs (w.alloc (.cells #[] 42 (0, 0))) := Src.ofSlice _ t22 ⟨b, 0, none⟩ n c cs (by rw [hzs]; exact hl) (fun j u hj => by
      rw [Addr.add_lit, Nat.zero_add]
      exact Lib.cell?_alloc_some _ (hc j u hj)) h1
    have hold : (Builtin.firstCells i0.size 0 (.slice (some ⟨w.heap.size, 0, none⟩) 0 0)).run Try.prog (w.alloc (.cells #[] 42 (0, 0))).drew = .ok ([] : List Value).toArray (w.alloc (.cells #[] 42 (0, 0))).drew :=
      run_firstCells_some _ i0.size 0 ⟨w.heap.size, 0, none⟩ 0 0 [] (by simp) (by simp)
    have hfit := growslice_fits (show 0 < 0 + n by omega) (show (0 + n) * 64 ≤ 140737488355328 by simpa using hb)
    have hml : 0 + n ≤ 9223372036854775807 := by simp only [maxLen] at hm; omega
    have hs : (w.alloc (.cells #[] 42 (0, 0))).heap.size = w.heap.size + 1 := Array.size_push _
    have hs2 : (w.alloc (.cells #[] 42 (0, 0))).drew.heap.size = w.heap.size + 1 := hs
    have hge := grownCap_ge (w.alloc (.cells #[] 42 (0, 0))) (0 + n) 0 42
    have hzl := size_zeroCells z.cells (grownCap (w.alloc (.cells #[] 42 (0, 0))) (0 + n) 0 42 - (0 + n))
    obtain ⟨v', w', hrun, hpost⟩ : ∃ v' w', (∀ ty, (Builtin.append_ #[26, 26] ty #[.slice (some ⟨w.heap.size, 0, none⟩) 0 0, .slice (some ⟨b, 0, none⟩) n c]).run Try.prog (w.alloc (.cells #[] 42 (0, 0))) = .ok v' w') ∧
        ∃ nb, RowAt w' 4 n v' cs nb ∧ w.heap.size ≤ nb ∧ nb < w'.heap.size ∧ Below w.heap.size w w' := by
      refine ⟨_, _, fun ty => run_append_grow_src _ 26 26 ty 42 i0 _ t22 hi0 hz0 (some ⟨w.heap.size, 0, none⟩) 0 0 [] hold _ n cs hsrc (by omega) (by omega) (by rw [hzb]; exact hfit), w.heap.size + 1, ⟨grownCap (w.alloc (.cells #[] 42 (0, 0))) (0 + n) 0 42, ([] ++ cs).toArray ++ Builtin.zeroCells z.cells (grownCap (w.alloc (.cells #[] 42 (0, 0))) (0 + n) 0 42 - (0 + n)), 42, ?_, ?_, ?_, ?_, ?_, ?_⟩, by omega, ?_, ?_⟩
      · rw [hs, Nat.zero_add]
      · have := heap_alloc_new (w.alloc (.cells #[] 42 (0, 0))).drew (.cells (([] ++ cs).toArray ++ Builtin.zeroCells z.cells (grownCap (w.alloc (.cells #[] 42 (0, 0))) (0 + n) 0 42 - (0 + n))) 42 (0, 0))
        rw [hs2] at this
        exact this
      · simp only [List.nil_append, Array.size_append, List.size_toArray, hzl, hl, hzc]
        rw [← Nat.add_mul]
        congr 1
        omega
      · omega
      · exact grownCap_le_maxLen _ _ _ _ (by simpa using hm)
      · simp only [List.nil_append, Array.toList_append]
        rw [← hl]
        exact List.take_left
      · exact Nat.lt_of_lt_of_eq (Nat.lt_succ_of_le (Nat.le_of_eq hs2.symm)) (Array.size_push _).symm
      · exact (((Below.refl _ w).alloc (Nat.le_refl _) _).drew).alloc (by rw [hs2]; omega) _
    clear hsrc hold hfit hml hge hzl
    have hh := hpost
    clear hpost
    go_enter Try.func57, Try.ntmps57
    go_wp2_with (at_builtin; refine Lib.wpList_append_run _ rfl _ _ _ _ rfl _ _ rfl rfl _ _ (hrun _) ?_)
    go_ret
    obtain ⟨nb, h⟩ := hh
    exact ⟨_, nb, rfl, h⟩
theorem cloneEnt : CloneRaw Try.prog 57 4 64 := cloneEnt_of (z := insEntZ) (by kernel_rfl) (by kernel_rfl) (by kernel_rfl)
set_option maxHeartbeats 4000000 in
theorem addP : AddP Try.prog (rho 286) (rho (100000 + 295)) (rho 247) (rho 253) (rho 294) 57 (rho (100000 + 292)) (insEntR.f 21) 42 where
  walk := fun al nl cl x0 x1 x2 a3 n3 c3 w Q h0 => by
    have h : AddRun Try.prog 52 53 54 55 57 58 56 42 al nl cl x0 x1 x2 a3 n3 c3 w Q := h0
    clear h0
    unfold AddRun at h
    show Calls Try.prog 16 _ w _
    go_enter Try.func16, Try.ntmps16
    go_wp2_with (go_at_call 52; refine h.mono ?_; rintro e w2 ⟨out, rfl, h2⟩)
    go_wp2_with (go_at_call 53; refine h2.mono ?_; rintro e w3 ⟨b, rfl, ⟨d0, d1, d2, d3⟩, h3, h4, h5⟩)
    · go_ret2; exact ⟨out, false, rfl, h4 (by assumption)⟩
    rotate_left
    · go_ret2; exact ⟨out, false, rfl, h3 (by first | assumption | exact Bool.eq_false_iff.2 (by assumption) | exact (Bool.not_eq_true' b).1 (by assumption))⟩
    refine (h5 (by first | assumption | exact (Bool.not_eq_false b).1 (by assumption)) (by assumption)).mono ?_
    rintro e w4 ⟨i, rfl, ⟨f0, f1, f2, f3⟩, h6⟩
    go_wp2
    · have h7 := h6 _ (fun _ => rfl) (fun hh => by omega)
      clear h h2 h3 h4 h5 h6
      go_region_with (first | (go_at_call 57; refine (h7 _ (by repeat (first | exact Ahead.refl _ | apply Ahead.drew))).mono ?_; rintro e w5 ⟨cl, rfl, ⟨g0, g1, g2, g3⟩, h8⟩) | (go_at_call 58; refine (h8 _ (by repeat (first | exact Ahead.refl _ | apply Ahead.drew))).mono ?_; rintro e w6 ⟨y0, y1, y2, y3, rfl, ⟨o0, o1, o2, o3⟩, h9⟩) | (go_at_call 56; refine (h9 _ (by repeat (first | exact Ahead.refl _ | apply Ahead.drew)) _ (by repeat (first | exact Ahead.refl _ | apply Ahead.drew))).mono ?_; rintro e w8 ⟨nx, rfl, h10⟩))
      all_goals go_wp2_with (go_at_call 53; refine (h10 _ (Ahead.refl _)).mono ?_; rintro e w9 ⟨b2, rfl, h11, h12⟩)
      · go_ret2
        exact ⟨_, _, rfl, h11 (by cases b2 <;> simp_all)⟩
      · go_ret2
        exact ⟨_, _, rfl, h12 (by cases b2 <;> simp_all)⟩
      · go_ret2
        exact ⟨_, _, rfl, h11 (by cases b2 <;> simp_all)⟩
      · go_ret2
        exact ⟨_, _, rfl, h12 (by cases b2 <;> simp_all)⟩
    · have h7 := h6 _ (fun hh => by omega) (fun _ => rfl)
      clear h h2 h3 h4 h5 h6
      go_region_with (first | (go_at_call 57; refine (h7 _ (by repeat (first | exact Ahead.refl _ | apply Ahead.drew))).mono ?_; rintro e w5 ⟨cl, rfl, ⟨g0, g1, g2, g3⟩, h8⟩) | (go_at_call 58; refine (h8 _ (by repeat (first | exact Ahead.refl _ | apply Ahead.drew))).mono ?_; rintro e w6 ⟨y0, y1, y2, y3, rfl, ⟨o0, o1, o2, o3⟩, h9⟩) | (go_at_call 56; refine (h9 _ (by repeat (first | exact Ahead.refl _ | apply Ahead.drew)) _ (by repeat (first | exact Ahead.refl _ | apply Ahead.drew))).mono ?_; rintro e w8 ⟨nx, rfl, h10⟩))
      all_goals go_wp2_with (go_at_call 53; refine (h10 _ (Ahead.refl _)).mono ?_; rintro e w9 ⟨b2, rfl, h11, h12⟩)
      · go_ret2
        exact ⟨_, _, rfl, h11 (by cases b2 <;> simp_all)⟩
      · go_ret2
        exact ⟨_, _, rfl, h12 (by cases b2 <;> simp_all)⟩
      · go_ret2
        exact ⟨_, _, rfl, h11 (by cases b2 <;> simp_all)⟩
      · go_ret2
        exact ⟨_, _, rfl, h12 (by cases b2 <;> simp_all)⟩
noncomputable abbrev E1 : Env := EnvW (cloneE ctbl) (look tbl)
theorem good1 : Good Try.prog rho E1 := good_W (tbl_ok tbl_all) (by kernel_rfl) (good_clone (by kernel_rfl) ctbl_all)
theorem g1_f75 : IsClone E1 224 2 16 := isClone_W (by decide) rfl rfl rfl
theorem g1_f76 : IsClone E1 225 2 16 := isClone_W (by decide) rfl rfl rfl
theorem g1_f40 : G_f40 E1 := { is := is_W rfl, c_f75 := g1_f75, c_f76 := g1_f76 }
theorem g1_f41 : G_f41 E1 := { is := is_W rfl, c_f40 := g1_f40 }
theorem g1_f88 : G_f88 E1 := { is := is_W rfl }
theorem g1_f11 : G_f11 E1 := { is := is_W rfl }
theorem g1_f10 : G_f10 E1 := { is := is_W rfl, c_f88 := g1_f88, c_f11 := g1_f11 }
theorem g1_f42 : G_f42 E1 := { is := is_W rfl }
theorem g1_f44 : G_f44 E1 := { is := is_W rfl, c_f42 := g1_f42 }
theorem g1_f20 : G_f20 E1 := { is := is_W rfl, c_f42 := g1_f42 }
theorem g1_f45 : G_f45 E1 := { is := is_W rfl, c_f42 := g1_f42 }
theorem g1_f1 : G_f1 E1 := { is := is_W rfl }
theorem g1_f2 : G_f2 E1 := { is := is_W rfl }
theorem g1_f0 : G_f0 E1 := { is := is_W rfl, c_f2 := g1_f2 }
theorem g1_f39 : G_f39 E1 := { is := is_W rfl, c_f1 := g1_f1, c_f0 := g1_f0 }
theorem g1_f37 : G_f37 E1 := { is := is_W rfl, c_f45 := g1_f45, c_f42 := g1_f42, c_f39 := g1_f39 }
theorem g1_f47 : G_f47 E1 := { is := is_W rfl, c_f42 := g1_f42 }
theorem g1_f38 : G_f38 E1 := { is := is_W rfl, c_f45 := g1_f45, c_f47 := g1_f47 }
theorem g1_f43 : G_f43 E1 := { is := is_W rfl, c_f44 := g1_f44, c_f20 := g1_f20, c_f37 := g1_f37, c_f38 := g1_f38 }
theorem g1_f89 : G_f89 E1 := { is := is_W rfl }
theorem g1_f81 : G_f81 E1 := { is := is_W rfl, c_f89 := g1_f89 }
theorem g1_f9 : G_f9 E1 := { is := is_W rfl }
theorem g1_f8 : G_f8 E1 := { is := is_W rfl, c_f81 := g1_f81, c_f9 := g1_f9 }
theorem g1_f36 : G_f36 E1 := { is := is_W rfl, c_f8 := g1_f8 }
theorem g1_f19 : G_f19 E1 := { is := is_W rfl, c_f10 := g1_f10, c_f43 := g1_f43, c_f36 := g1_f36 }
theorem g1_f3 : G_f3 E1 := { is := is_W rfl }
noncomputable abbrev Ev : Env := EnvW (addE 286 295 247 253 294 292 64 E1 (cloneE ctbl)) (look tbl)
theorem good : Good Try.prog rho Ev := good_W (tbl_ok tbl_all) (by kernel_rfl) (good_addE good1 (good_clone (by kernel_rfl) ctbl_all) insEntP (by kernel_rfl) (by decide) cloneEnt addP (by decide) (by kernel_rfl) (by kernel_rfl) (by decide) (by decide) (by decide) (by decide))
theorem g_f75 : IsClone Ev 224 2 16 := isClone_A (by decide) (by decide) (by decide) rfl rfl rfl
theorem g_f76 : IsClone Ev 225 2 16 := isClone_A (by decide) (by decide) (by decide) rfl rfl rfl
theorem addIs : AddIs Ev := addIs_of (fun us => addE_W rfl rfl us) g1_f41 g1_f19 g1_f88 g1_f3 g1_f40
theorem g_f63 : G_f63 Ev := { is := is_W rfl }
theorem g_f64 : G_f64 Ev := { is := is_W rfl }
theorem g_f61 : G_f61 Ev := { is := is_W rfl, c_f63 := g_f63, c_f64 := g_f64 }
theorem g_f62 : G_f62 Ev := { is := is_W rfl, c_f61 := g_f61 }
theorem g_f69 : G_f69 Ev := { is := is_W rfl }
theorem g_f70 : G_f70 Ev := { is := is_W rfl, c_f69 := g_f69 }
theorem g_f72 : G_f72 Ev := { is := is_W rfl }
theorem g_f73 : G_f73 Ev := { is := is_W rfl, c_f72 := g_f72 }
theorem g_f65 : G_f65 Ev := { is := is_W rfl, c_f70 := g_f70, c_f73 := g_f73 }
theorem g_f66 : G_f66 Ev := { is := is_W rfl, c_f65 := g_f65 }
theorem g_f51 : G_f51 Ev := { is := is_W rfl }
theorem g_f52 : G_f52 Ev := { is := is_W rfl, c_f51 := g_f51 }
theorem g_f53 : G_f53 Ev := { is := is_W rfl }
theorem g_f54 : G_f54 Ev := { is := is_W rfl, c_f53 := g_f53 }
theorem g_f49 : G_f49 Ev := { is := is_W rfl, c_f52 := g_f52, c_f54 := g_f54 }
theorem g_f50 : G_f50 Ev := { is := is_W rfl, c_f49 := g_f49 }
theorem g_f108 : G_f108 Ev := { is := is_W rfl }
theorem g_f93 : G_f93 Ev := { is := is_W rfl }
theorem g_f110 : G_f110 Ev := { is := is_W rfl }
theorem g_f111 : G_f111 Ev := { is := is_W rfl }
theorem g_f101 : G_f101 Ev := { is := is_W rfl, c_f110 := g_f110, c_f111 := g_f111 }
theorem g_f106 : G_f106 Ev := { is := is_W rfl }
theorem g_f109 : G_f109 Ev := { is := is_W rfl }
theorem g_f97 : G_f97 Ev := { is := is_W rfl, c_f93 := g_f93, c_f101 := g_f101, c_f106 := g_f106, c_f109 := g_f109 }
theorem g_f90 : G_f90 Ev := { is := is_W rfl, c_f108 := g_f108, c_f97 := g_f97 }
theorem g_f88 : G_f88 Ev := { is := is_W rfl }
theorem g_f11 : G_f11 Ev := { is := is_W rfl }
theorem g_f10 : G_f10 Ev := { is := is_W rfl, c_f88 := g_f88, c_f11 := g_f11 }
theorem g_f42 : G_f42 Ev := { is := is_W rfl }
theorem g_f44 : G_f44 Ev := { is := is_W rfl, c_f42 := g_f42 }
theorem g_f20 : G_f20 Ev := { is := is_W rfl, c_f42 := g_f42 }
theorem g_f45 : G_f45 Ev := { is := is_W rfl, c_f42 := g_f42 }
theorem g_f1 : G_f1 Ev := { is := is_W rfl }
theorem g_f2 : G_f2 Ev := { is := is_W rfl }
theorem g_f0 : G_f0 Ev := { is := is_W rfl, c_f2 := g_f2 }
theorem g_f39 : G_f39 Ev := { is := is_W rfl, c_f1 := g_f1, c_f0 := g_f0 }
theorem g_f37 : G_f37 Ev := { is := is_W rfl, c_f45 := g_f45, c_f42 := g_f42, c_f39 := g_f39 }
theorem g_f47 : G_f47 Ev := { is := is_W rfl, c_f42 := g_f42 }
theorem g_f38 : G_f38 Ev := { is := is_W rfl, c_f45 := g_f45, c_f47 := g_f47 }
theorem g_f43 : G_f43 Ev := { is := is_W rfl, c_f44 := g_f44, c_f20 := g_f20, c_f37 := g_f37, c_f38 := g_f38 }
theorem g_f89 : G_f89 Ev := { is := is_W rfl }
theorem g_f81 : G_f81 Ev := { is := is_W rfl, c_f89 := g_f89 }
theorem g_f9 : G_f9 Ev := { is := is_W rfl }
theorem g_f8 : G_f8 Ev := { is := is_W rfl, c_f81 := g_f81, c_f9 := g_f9 }
theorem g_f36 : G_f36 Ev := { is := is_W rfl, c_f8 := g_f8 }
theorem g_f19 : G_f19 Ev := { is := is_W rfl, c_f10 := g_f10, c_f43 := g_f43, c_f36 := g_f36 }
theorem g_f3 : G_f3 Ev := { is := is_W rfl }
theorem g_f40 : G_f40 Ev := { is := is_W rfl, c_f75 := g_f75, c_f76 := g_f76 }
theorem g_f41 : G_f41 Ev := { is := is_W rfl, c_f40 := g_f40 }
theorem g_f56 : G_f56 Ev := { is := is_W rfl }
theorem g_f57 : G_f57 Ev := { is := is_W rfl }
theorem g_f55 : G_f55 Ev := { is := is_W rfl, c_f56 := g_f56, c_f57 := g_f57 }
theorem g_f71 : G_f71 Ev := { is := is_W rfl, c_f69 := g_f69 }
theorem g_f74 : G_f74 Ev := { is := is_W rfl, c_f72 := g_f72 }
theorem g_f68 : G_f68 Ev := { is := is_W rfl, c_f71 := g_f71, c_f74 := g_f74 }
theorem g_f67 : G_f67 Ev := { is := is_W rfl, c_f68 := g_f68 }
theorem g_f59 : G_f59 Ev := { is := is_W rfl }
theorem g_f60 : G_f60 Ev := { is := is_W rfl }
theorem g_f58 : G_f58 Ev := { is := is_W rfl, c_f59 := g_f59, c_f60 := g_f60 }
theorem g_f48 : G_f48 Ev := { is := is_W rfl, c_f62 := g_f62, c_f66 := g_f66, c_f50 := g_f50, c_f61 := g_f61, c_f90 := g_f90, c_f65 := g_f65, c_f49 := g_f49, c_f55 := g_f55, c_f67 := g_f67, c_f68 := g_f68, c_f58 := g_f58, c_f59 := g_f59, c_f60 := g_f60 }
end Go.Proofs.Ytlgblpngiamhaaa.Am.FnExactAddReader

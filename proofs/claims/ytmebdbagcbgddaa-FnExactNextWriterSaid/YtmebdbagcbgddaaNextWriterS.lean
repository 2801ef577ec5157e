import Derived.Test.YtmebdbagcbgddaaChecked
import Derived.KernelRfl
import Derived.Test.YtmebdbagcbgddaaAmW
import Derived.Test.YtmebdbagcbgddaaNextWriterF0
namespace Go.Proofs.Ytmebdbagcbgddaa.Am.FnExactNextWriter
open Go Go.Proofs
set_option linter.unusedVariables false
set_option maxRecDepth 100000

/-- Which function of the program each number names. -/
def rho (m : Nat) : FuncId := match [(23, 70), (24, 69), (27, 74), (28, 73), (29, 103), (30, 104), (33, 77), (34, 56), (35, 98), (36, 105), (44, 8), (45, 33), (46, 35), (47, 34), (48, 32), (49, 31), (50, 80), (51, 81), (52, 82), (53, 107), (54, 106), (55, 123), (56, 83)].lookup m with | some f => f | none => 0
theorem laws_szReadMarkS_match : matchFn Try.prog rho 24 2 laws_szReadMarkS_ac [(4, none)] = true := by kernel_rfl
theorem laws_szWriteS_match : matchFn Try.prog rho 23 2 laws_szWriteS_ac [(4, none)] = true := by kernel_rfl
theorem laws_szEntry_match : matchFn Try.prog rho 50 2 laws_szEntry_ac [(4, none)] = true := by kernel_rfl
theorem laws_szEntryS_match : matchFn Try.prog rho 49 2 laws_szEntryS_ac [(4, none)] = true := by kernel_rfl
theorem spec_NextWriter_match : matchFn Try.prog rho 48 3 spec_NextWriter_ac [(6, none)] = true := by kernel_rfl
theorem laws_toReadMark_match : matchFn Try.prog rho 29 1 laws_toReadMark_ac [(2, some (true, 2))] = true := by kernel_rfl
theorem laws_toReadMarkS_match : matchFn Try.prog rho 28 1 laws_toReadMarkS_ac [(2, none)] = true := by kernel_rfl
theorem laws_toWrite_match : matchFn Try.prog rho 30 1 laws_toWrite_ac [(2, some (true, 2))] = true := by kernel_rfl
theorem laws_toWriteS_match : matchFn Try.prog rho 27 1 laws_toWriteS_ac [(2, none)] = true := by kernel_rfl
theorem laws_toEntry_match : matchFn Try.prog rho 51 1 laws_toEntry_ac [(2, some (true, 4))] = true := by kernel_rfl
theorem laws_toEntryS_match : matchFn Try.prog rho 45 1 laws_toEntryS_ac [(2, none)] = true := by kernel_rfl
theorem slices_IndexFunc_g55_match : matchFn Try.prog rho 55 2 slices_IndexFunc_g55_ac [(4, none)] = true := by kernel_rfl
theorem slices_ContainsFunc_g54_match : matchFn Try.prog rho 54 2 slices_ContainsFunc_g54_ac [(4, none)] = true := by kernel_rfl
theorem impl_Entry_writes_1_match : matchFn Try.prog rho 53 2 impl_Entry_writes_1_ac [(3, none)] = true := by kernel_rfl
theorem impl_Entry_writes_match : matchFn Try.prog rho 52 2 impl_Entry_writes_ac [(4, none)] = true := by kernel_rfl
theorem impl_NextWriter_match : matchFn Try.prog rho 47 3 impl_NextWriter_ac [(6, none)] = true := by kernel_rfl
theorem laws_eqReadMark_match : matchFn Try.prog rho 35 2 laws_eqReadMark_ac [(4, none)] = true := by kernel_rfl
theorem laws_eqReadMarkS_match : matchFn Try.prog rho 34 2 laws_eqReadMarkS_ac [(4, none)] = true := by kernel_rfl
theorem laws_eqWrite_match : matchFn Try.prog rho 36 2 laws_eqWrite_ac [(4, none)] = true := by kernel_rfl
theorem laws_eqWriteS_match : matchFn Try.prog rho 33 2 laws_eqWriteS_ac [(4, none)] = true := by kernel_rfl
theorem laws_eqEntry_match : matchFn Try.prog rho 56 2 laws_eqEntry_ac [(4, none)] = true := by kernel_rfl
theorem laws_eqEntryS_match : matchFn Try.prog rho 46 2 laws_eqEntryS_ac [(4, none)] = true := by kernel_rfl
theorem laws_FnExactNextWriter_match : matchFn Try.prog rho 44 3 laws_FnExactNextWriter_ac [(6, none)] = true := by kernel_rfl
def tbl : List (Nat × Fn) := [(24, ⟨2, laws_szReadMarkS_ac, [(4, none)]⟩),
  (23, ⟨2, laws_szWriteS_ac, [(4, none)]⟩),
  (50, ⟨2, laws_szEntry_ac, [(4, none)]⟩),
  (49, ⟨2, laws_szEntryS_ac, [(4, none)]⟩),
  (48, ⟨3, spec_NextWriter_ac, [(6, none)]⟩),
  (29, ⟨1, laws_toReadMark_ac, [(2, some (true, 2))]⟩),
  (28, ⟨1, laws_toReadMarkS_ac, [(2, none)]⟩),
  (30, ⟨1, laws_toWrite_ac, [(2, some (true, 2))]⟩),
  (27, ⟨1, laws_toWriteS_ac, [(2, none)]⟩),
  (51, ⟨1, laws_toEntry_ac, [(2, some (true, 4))]⟩),
  (45, ⟨1, laws_toEntryS_ac, [(2, none)]⟩),
  (55, ⟨2, slices_IndexFunc_g55_ac, [(4, none)]⟩),
  (54, ⟨2, slices_ContainsFunc_g54_ac, [(4, none)]⟩),
  (53, ⟨2, impl_Entry_writes_1_ac, [(3, none)]⟩),
  (52, ⟨2, impl_Entry_writes_ac, [(4, none)]⟩),
  (47, ⟨3, impl_NextWriter_ac, [(6, none)]⟩),
  (35, ⟨2, laws_eqReadMark_ac, [(4, none)]⟩),
  (34, ⟨2, laws_eqReadMarkS_ac, [(4, none)]⟩),
  (36, ⟨2, laws_eqWrite_ac, [(4, none)]⟩),
  (33, ⟨2, laws_eqWriteS_ac, [(4, none)]⟩),
  (56, ⟨2, laws_eqEntry_ac, [(4, none)]⟩),
  (46, ⟨2, laws_eqEntryS_ac, [(4, none)]⟩),
  (44, ⟨3, laws_FnExactNextWriter_ac, [(6, none)]⟩)]
theorem tbl_all : AllMatch Try.prog rho tbl := ⟨laws_szReadMarkS_match, laws_szWriteS_match, laws_szEntry_match, laws_szEntryS_match, spec_NextWriter_match, laws_toReadMark_match, laws_toReadMarkS_match, laws_toWrite_match, laws_toWriteS_match, laws_toEntry_match, laws_toEntryS_match, slices_IndexFunc_g55_match, slices_ContainsFunc_g54_match, impl_Entry_writes_1_match, impl_Entry_writes_match, impl_NextWriter_match, laws_eqReadMark_match, laws_eqReadMarkS_match, laws_eqWrite_match, laws_eqWriteS_match, laws_eqEntry_match, laws_eqEntryS_match, laws_FnExactNextWriter_match, trivial⟩
noncomputable abbrev Ev : Env := EnvW (look tbl)
theorem good : Good Try.prog rho Ev := good_W (tbl_ok tbl_all) (by kernel_rfl)
theorem g_laws_szReadMarkS : G_laws_szReadMarkS Ev := ⟨is_W rfl⟩
theorem g_laws_szWriteS : G_laws_szWriteS Ev := ⟨is_W rfl⟩
theorem g_laws_szEntry : G_laws_szEntry Ev := ⟨is_W rfl, g_laws_szReadMarkS, g_laws_szWriteS⟩
theorem g_laws_szEntryS : G_laws_szEntryS Ev := ⟨is_W rfl, g_laws_szEntry⟩
theorem g_spec_NextWriter : G_spec_NextWriter Ev := ⟨is_W rfl⟩
theorem g_laws_toReadMark : G_laws_toReadMark Ev := ⟨is_W rfl⟩
theorem g_laws_toReadMarkS : G_laws_toReadMarkS Ev := ⟨is_W rfl, g_laws_toReadMark⟩
theorem g_laws_toWrite : G_laws_toWrite Ev := ⟨is_W rfl⟩
theorem g_laws_toWriteS : G_laws_toWriteS Ev := ⟨is_W rfl, g_laws_toWrite⟩
theorem g_laws_toEntry : G_laws_toEntry Ev := ⟨is_W rfl, g_laws_toReadMarkS, g_laws_toWriteS⟩
theorem g_laws_toEntryS : G_laws_toEntryS Ev := ⟨is_W rfl, g_laws_toEntry⟩
theorem g_slices_IndexFunc_g55 : G_slices_IndexFunc_g55 Ev := ⟨is_W rfl⟩
theorem g_slices_ContainsFunc_g54 : G_slices_ContainsFunc_g54 Ev := ⟨is_W rfl, g_slices_IndexFunc_g55⟩
theorem g_impl_Entry_writes_1 : G_impl_Entry_writes_1 Ev := ⟨is_W rfl⟩
theorem g_impl_Entry_writes : G_impl_Entry_writes Ev := ⟨is_W rfl, g_slices_ContainsFunc_g54, g_impl_Entry_writes_1⟩
theorem g_impl_NextWriter : G_impl_NextWriter Ev := ⟨is_W rfl, g_impl_Entry_writes⟩
theorem g_laws_eqReadMark : G_laws_eqReadMark Ev := ⟨is_W rfl⟩
theorem g_laws_eqReadMarkS : G_laws_eqReadMarkS Ev := ⟨is_W rfl, g_laws_eqReadMark⟩
theorem g_laws_eqWrite : G_laws_eqWrite Ev := ⟨is_W rfl⟩
theorem g_laws_eqWriteS : G_laws_eqWriteS Ev := ⟨is_W rfl, g_laws_eqWrite⟩
theorem g_laws_eqEntry : G_laws_eqEntry Ev := ⟨is_W rfl, g_laws_eqReadMarkS, g_laws_eqWriteS⟩
theorem g_laws_eqEntryS : G_laws_eqEntryS Ev := ⟨is_W rfl, g_laws_eqEntry⟩
theorem g_laws_FnExactNextWriter : G_laws_FnExactNextWriter Ev := ⟨is_W rfl, g_laws_szEntryS, g_spec_NextWriter, g_laws_toEntryS, g_impl_NextWriter, g_laws_eqEntryS⟩
end Go.Proofs.Ytmebdbagcbgddaa.Am.FnExactNextWriter

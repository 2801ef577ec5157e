import Derived.Test.YtfdcdbkblkehcaaChecked
import Derived.KernelRfl
import Derived.Test.YtfdcdbkblkehcaaAmW
import Derived.Test.YtfdcdbkblkehcaaNewNodeF0
namespace Go.Proofs.Ytfdcdbkblkehcaa.Am.FnExactNewNode
open Go Go.Proofs
set_option linter.unusedVariables false
set_option maxRecDepth 100000

/-- Which function of the program each number names. -/
def rho (m : Nat) : FuncId := match [(33, 66), (34, 65), (35, 107), (36, 108), (92, 69), (97, 124), (118, 169), (119, 190), (120, 200), (125, 80), (174, 127), (175, 126), (176, 125), (177, 17), (178, 170), (179, 171), (206, 132), (233, 173), (234, 192), (235, 70), (260, 36), (306, 7), (307, 38), (308, 35), (310, 34), (311, 78), (312, 122), (313, 79), (314, 123), (319, 82), (320, 135), (321, 134), (322, 133), (100308, 35), (100313, 79), (100314, 123), (200095, 67), (200121, 172), (200122, 191), (200232, 68), (200316, 131), (200317, 130), (200318, 129)].lookup m with | some f => f | none => 0
theorem spec_NewStore_match : matchFn Try.prog rho 312 0 spec_NewStore_ac [(0, some (true, 1))] = true := by kernel_rfl
theorem spec_NewEngine_match : matchFn Try.prog rho 311 1 spec_NewEngine_ac [(2, some (true, 6))] = true := by kernel_rfl
theorem spec_NewNode_match : matchFn Try.prog rho 310 0 spec_NewNode_ac [(0, some (true, 7))] = true := by kernel_rfl
theorem impl_NewStore_match : matchFn Try.prog rho 314 0 impl_NewStore_ac [(0, some (true, 1))] = true := by kernel_rfl
theorem impl_NewEngine_match : matchFn Try.prog rho 313 1 impl_NewEngine_ac [(2, some (true, 6))] = true := by kernel_rfl
theorem impl_NewNode_match : matchFn Try.prog rho 308 0 impl_NewNode_ac [(0, some (true, 7))] = true := by kernel_rfl
theorem laws_eqVersion_match : matchFn Try.prog rho 120 2 laws_eqVersion_ac [(4, none)] = true := by kernel_rfl
theorem laws_eqVersionS_match : matchFn Try.prog rho 119 2 laws_eqVersionS_ac [(4, none)] = true := by kernel_rfl
theorem laws_eqVersionSS_match : matchFn Try.prog rho 118 2 laws_eqVersionSS_ac [(4, none)] = true := by kernel_rfl
theorem laws_eqStore_match : matchFn Try.prog rho 97 2 laws_eqStore_ac [(4, none)] = true := by kernel_rfl
theorem laws_eqReadMark_match : matchFn Try.prog rho 35 2 laws_eqReadMark_ac [(4, none)] = true := by kernel_rfl
theorem laws_eqReadMarkS_match : matchFn Try.prog rho 34 2 laws_eqReadMarkS_ac [(4, none)] = true := by kernel_rfl
theorem laws_eqWrite_match : matchFn Try.prog rho 36 2 laws_eqWrite_ac [(4, none)] = true := by kernel_rfl
theorem laws_eqWriteS_match : matchFn Try.prog rho 33 2 laws_eqWriteS_ac [(4, none)] = true := by kernel_rfl
theorem laws_eqTransaction_match : matchFn Try.prog rho 177 2 laws_eqTransaction_ac [(4, none)] = true := by kernel_rfl
theorem laws_eqTransactionS_match : matchFn Try.prog rho 176 2 laws_eqTransactionS_ac [(4, none)] = true := by kernel_rfl
theorem laws_eqLock_match : matchFn Try.prog rho 178 2 laws_eqLock_ac [(4, none)] = true := by kernel_rfl
theorem laws_eqLockS_match : matchFn Try.prog rho 175 2 laws_eqLockS_ac [(4, none)] = true := by kernel_rfl
theorem laws_eqWait_match : matchFn Try.prog rho 179 2 laws_eqWait_ac [(4, none)] = true := by kernel_rfl
theorem laws_eqWaitS_match : matchFn Try.prog rho 174 2 laws_eqWaitS_ac [(4, none)] = true := by kernel_rfl
theorem laws_eqEngine_match : matchFn Try.prog rho 125 2 laws_eqEngine_ac [(4, none)] = true := by kernel_rfl
theorem laws_eqNode_match : matchFn Try.prog rho 260 2 laws_eqNode_ac [(4, none)] = true := by kernel_rfl
theorem laws_heldVersionS_match : matchFn Try.prog rho 234 2 laws_heldVersionS_ac [(4, none)] = true := by kernel_rfl
theorem laws_heldVersionSS_match : matchFn Try.prog rho 233 2 laws_heldVersionSS_ac [(4, none)] = true := by kernel_rfl
theorem laws_heldStore_match : matchFn Try.prog rho 206 2 laws_heldStore_ac [(4, none)] = true := by kernel_rfl
theorem laws_heldReadMarkS_match : matchFn Try.prog rho 92 2 laws_heldReadMarkS_ac [(4, none)] = true := by kernel_rfl
theorem laws_heldWriteS_match : matchFn Try.prog rho 235 2 laws_heldWriteS_ac [(4, none)] = true := by kernel_rfl
theorem laws_heldTransactionS_match : matchFn Try.prog rho 322 2 laws_heldTransactionS_ac [(4, none)] = true := by kernel_rfl
theorem laws_heldLockS_match : matchFn Try.prog rho 321 2 laws_heldLockS_ac [(4, none)] = true := by kernel_rfl
theorem laws_heldWaitS_match : matchFn Try.prog rho 320 2 laws_heldWaitS_ac [(4, none)] = true := by kernel_rfl
theorem laws_heldEngine_match : matchFn Try.prog rho 319 2 laws_heldEngine_ac [(4, none)] = true := by kernel_rfl
theorem laws_heldNode_match : matchFn Try.prog rho 307 2 laws_heldNode_ac [(4, none)] = true := by kernel_rfl
theorem impl_NewStore_F_match : matchFn Try.prog rho 100314 0 impl_NewStore_F_ac [(0, some (true, 1))] = true := by kernel_rfl
theorem impl_NewEngine_F_match : matchFn Try.prog rho 100313 1 impl_NewEngine_F_ac [(2, some (true, 6))] = true := by kernel_rfl
theorem impl_NewNode_F_match : matchFn Try.prog rho 100308 0 impl_NewNode_F_ac [(0, some (true, 7))] = true := by kernel_rfl
theorem laws_markReadMarkS_M_match : matchFn Try.prog rho 200095 2 laws_markReadMarkS_M_ac [(4, none)] = true := by kernel_rfl
theorem laws_markWriteS_M_match : matchFn Try.prog rho 200232 2 laws_markWriteS_M_ac [(4, none)] = true := by kernel_rfl
theorem laws_markTransactionS_M_match : matchFn Try.prog rho 200318 2 laws_markTransactionS_M_ac [(4, none)] = true := by kernel_rfl
theorem laws_markLockS_M_match : matchFn Try.prog rho 200317 2 laws_markLockS_M_ac [(4, none)] = true := by kernel_rfl
theorem laws_markWaitS_M_match : matchFn Try.prog rho 200316 2 laws_markWaitS_M_ac [(4, none)] = true := by kernel_rfl
theorem laws_markVersionS_M_match : matchFn Try.prog rho 200122 2 laws_markVersionS_M_ac [(4, none)] = true := by kernel_rfl
theorem laws_markVersionSS_M_match : matchFn Try.prog rho 200121 2 laws_markVersionSS_M_ac [(4, none)] = true := by kernel_rfl
theorem laws_FnExactNewNode_match : matchFn Try.prog rho 306 0 laws_FnExactNewNode_ac [(0, none)] = true := by kernel_rfl
def tbl : List (Nat × Fn) := [(312, ⟨0, spec_NewStore_ac, [(0, some (true, 1))]⟩),
  (311, ⟨1, spec_NewEngine_ac, [(2, some (true, 6))]⟩),
  (310, ⟨0, spec_NewNode_ac, [(0, some (true, 7))]⟩),
  (314, ⟨0, impl_NewStore_ac, [(0, some (true, 1))]⟩),
  (313, ⟨1, impl_NewEngine_ac, [(2, some (true, 6))]⟩),
  (308, ⟨0, impl_NewNode_ac, [(0, some (true, 7))]⟩),
  (120, ⟨2, laws_eqVersion_ac, [(4, none)]⟩),
  (119, ⟨2, laws_eqVersionS_ac, [(4, none)]⟩),
  (118, ⟨2, laws_eqVersionSS_ac, [(4, none)]⟩),
  (97, ⟨2, laws_eqStore_ac, [(4, none)]⟩),
  (35, ⟨2, laws_eqReadMark_ac, [(4, none)]⟩),
  (34, ⟨2, laws_eqReadMarkS_ac, [(4, none)]⟩),
  (36, ⟨2, laws_eqWrite_ac, [(4, none)]⟩),
  (33, ⟨2, laws_eqWriteS_ac, [(4, none)]⟩),
  (177, ⟨2, laws_eqTransaction_ac, [(4, none)]⟩),
  (176, ⟨2, laws_eqTransactionS_ac, [(4, none)]⟩),
  (178, ⟨2, laws_eqLock_ac, [(4, none)]⟩),
  (175, ⟨2, laws_eqLockS_ac, [(4, none)]⟩),
  (179, ⟨2, laws_eqWait_ac, [(4, none)]⟩),
  (174, ⟨2, laws_eqWaitS_ac, [(4, none)]⟩),
  (125, ⟨2, laws_eqEngine_ac, [(4, none)]⟩),
  (260, ⟨2, laws_eqNode_ac, [(4, none)]⟩),
  (234, ⟨2, laws_heldVersionS_ac, [(4, none)]⟩),
  (233, ⟨2, laws_heldVersionSS_ac, [(4, none)]⟩),
  (206, ⟨2, laws_heldStore_ac, [(4, none)]⟩),
  (92, ⟨2, laws_heldReadMarkS_ac, [(4, none)]⟩),
  (235, ⟨2, laws_heldWriteS_ac, [(4, none)]⟩),
  (322, ⟨2, laws_heldTransactionS_ac, [(4, none)]⟩),
  (321, ⟨2, laws_heldLockS_ac, [(4, none)]⟩),
  (320, ⟨2, laws_heldWaitS_ac, [(4, none)]⟩),
  (319, ⟨2, laws_heldEngine_ac, [(4, none)]⟩),
  (307, ⟨2, laws_heldNode_ac, [(4, none)]⟩),
  (100314, ⟨0, impl_NewStore_F_ac, [(0, some (true, 1))]⟩),
  (100313, ⟨1, impl_NewEngine_F_ac, [(2, some (true, 6))]⟩),
  (100308, ⟨0, impl_NewNode_F_ac, [(0, some (true, 7))]⟩),
  (200095, ⟨2, laws_markReadMarkS_M_ac, [(4, none)]⟩),
  (200232, ⟨2, laws_markWriteS_M_ac, [(4, none)]⟩),
  (200318, ⟨2, laws_markTransactionS_M_ac, [(4, none)]⟩),
  (200317, ⟨2, laws_markLockS_M_ac, [(4, none)]⟩),
  (200316, ⟨2, laws_markWaitS_M_ac, [(4, none)]⟩),
  (200122, ⟨2, laws_markVersionS_M_ac, [(4, none)]⟩),
  (200121, ⟨2, laws_markVersionSS_M_ac, [(4, none)]⟩),
  (306, ⟨0, laws_FnExactNewNode_ac, [(0, none)]⟩)]
theorem tbl_all : AllMatch Try.prog rho tbl := ⟨spec_NewStore_match, spec_NewEngine_match, spec_NewNode_match, impl_NewStore_match, impl_NewEngine_match, impl_NewNode_match, laws_eqVersion_match, laws_eqVersionS_match, laws_eqVersionSS_match, laws_eqStore_match, laws_eqReadMark_match, laws_eqReadMarkS_match, laws_eqWrite_match, laws_eqWriteS_match, laws_eqTransaction_match, laws_eqTransactionS_match, laws_eqLock_match, laws_eqLockS_match, laws_eqWait_match, laws_eqWaitS_match, laws_eqEngine_match, laws_eqNode_match, laws_heldVersionS_match, laws_heldVersionSS_match, laws_heldStore_match, laws_heldReadMarkS_match, laws_heldWriteS_match, laws_heldTransactionS_match, laws_heldLockS_match, laws_heldWaitS_match, laws_heldEngine_match, laws_heldNode_match, impl_NewStore_F_match, impl_NewEngine_F_match, impl_NewNode_F_match, laws_markReadMarkS_M_match, laws_markWriteS_M_match, laws_markTransactionS_M_match, laws_markLockS_M_match, laws_markWaitS_M_match, laws_markVersionS_M_match, laws_markVersionSS_M_match, laws_FnExactNewNode_match, trivial⟩
noncomputable abbrev Ev : Env := EnvW noEnv (look tbl)
theorem good : Good Try.prog rho Ev := good_W (tbl_ok tbl_all) (by kernel_rfl) good_no
theorem g_spec_NewStore : G_spec_NewStore Ev := { is := is_W rfl }
theorem g_spec_NewEngine : G_spec_NewEngine Ev := { is := is_W rfl, c_spec_NewStore := g_spec_NewStore }
theorem g_spec_NewNode : G_spec_NewNode Ev := { is := is_W rfl, c_spec_NewEngine := g_spec_NewEngine }
theorem g_impl_NewStore : G_impl_NewStore Ev := { is := is_W rfl }
theorem g_impl_NewEngine : G_impl_NewEngine Ev := { is := is_W rfl, c_impl_NewStore := g_impl_NewStore }
theorem g_impl_NewNode : G_impl_NewNode Ev := { is := is_W rfl, c_impl_NewEngine := g_impl_NewEngine }
theorem g_laws_eqVersion : G_laws_eqVersion Ev := { is := is_W rfl }
theorem g_laws_eqVersionS : G_laws_eqVersionS Ev := { is := is_W rfl, c_laws_eqVersion := g_laws_eqVersion }
theorem g_laws_eqVersionSS : G_laws_eqVersionSS Ev := { is := is_W rfl, c_laws_eqVersionS := g_laws_eqVersionS }
theorem g_laws_eqStore : G_laws_eqStore Ev := { is := is_W rfl, c_laws_eqVersionSS := g_laws_eqVersionSS }
theorem g_laws_eqReadMark : G_laws_eqReadMark Ev := { is := is_W rfl }
theorem g_laws_eqReadMarkS : G_laws_eqReadMarkS Ev := { is := is_W rfl, c_laws_eqReadMark := g_laws_eqReadMark }
theorem g_laws_eqWrite : G_laws_eqWrite Ev := { is := is_W rfl }
theorem g_laws_eqWriteS : G_laws_eqWriteS Ev := { is := is_W rfl, c_laws_eqWrite := g_laws_eqWrite }
theorem g_laws_eqTransaction : G_laws_eqTransaction Ev := { is := is_W rfl, c_laws_eqReadMarkS := g_laws_eqReadMarkS, c_laws_eqWriteS := g_laws_eqWriteS }
theorem g_laws_eqTransactionS : G_laws_eqTransactionS Ev := { is := is_W rfl, c_laws_eqTransaction := g_laws_eqTransaction }
theorem g_laws_eqLock : G_laws_eqLock Ev := { is := is_W rfl }
theorem g_laws_eqLockS : G_laws_eqLockS Ev := { is := is_W rfl, c_laws_eqLock := g_laws_eqLock }
theorem g_laws_eqWait : G_laws_eqWait Ev := { is := is_W rfl }
theorem g_laws_eqWaitS : G_laws_eqWaitS Ev := { is := is_W rfl, c_laws_eqWait := g_laws_eqWait }
theorem g_laws_eqEngine : G_laws_eqEngine Ev := { is := is_W rfl, c_laws_eqStore := g_laws_eqStore, c_laws_eqTransactionS := g_laws_eqTransactionS, c_laws_eqLockS := g_laws_eqLockS, c_laws_eqWaitS := g_laws_eqWaitS }
theorem g_laws_eqNode : G_laws_eqNode Ev := { is := is_W rfl, c_laws_eqEngine := g_laws_eqEngine }
theorem g_laws_heldVersionS : G_laws_heldVersionS Ev := { is := is_W rfl }
theorem g_laws_heldVersionSS : G_laws_heldVersionSS Ev := { is := is_W rfl, c_laws_heldVersionS := g_laws_heldVersionS }
theorem g_laws_heldStore : G_laws_heldStore Ev := { is := is_W rfl, c_laws_heldVersionSS := g_laws_heldVersionSS }
theorem g_laws_heldReadMarkS : G_laws_heldReadMarkS Ev := { is := is_W rfl }
theorem g_laws_heldWriteS : G_laws_heldWriteS Ev := { is := is_W rfl }
theorem g_laws_heldTransactionS : G_laws_heldTransactionS Ev := { is := is_W rfl, c_laws_heldReadMarkS := g_laws_heldReadMarkS, c_laws_heldWriteS := g_laws_heldWriteS }
theorem g_laws_heldLockS : G_laws_heldLockS Ev := { is := is_W rfl }
theorem g_laws_heldWaitS : G_laws_heldWaitS Ev := { is := is_W rfl }
theorem g_laws_heldEngine : G_laws_heldEngine Ev := { is := is_W rfl, c_laws_heldStore := g_laws_heldStore, c_laws_heldTransactionS := g_laws_heldTransactionS, c_laws_heldLockS := g_laws_heldLockS, c_laws_heldWaitS := g_laws_heldWaitS }
theorem g_laws_heldNode : G_laws_heldNode Ev := { is := is_W rfl, c_laws_heldEngine := g_laws_heldEngine }
theorem g_impl_NewStore_F : G_impl_NewStore_F Ev := { is := is_W rfl }
theorem g_impl_NewEngine_F : G_impl_NewEngine_F Ev := { is := is_W rfl, c_impl_NewStore_F := g_impl_NewStore_F }
theorem g_impl_NewNode_F : G_impl_NewNode_F Ev := { is := is_W rfl, c_impl_NewEngine_F := g_impl_NewEngine_F }
theorem g_laws_markReadMarkS_M : G_laws_markReadMarkS_M Ev := { is := is_W rfl }
theorem g_laws_markWriteS_M : G_laws_markWriteS_M Ev := { is := is_W rfl }
theorem g_laws_markTransactionS_M : G_laws_markTransactionS_M Ev := { is := is_W rfl, c_laws_markReadMarkS_M := g_laws_markReadMarkS_M, c_laws_markWriteS_M := g_laws_markWriteS_M }
theorem g_laws_markLockS_M : G_laws_markLockS_M Ev := { is := is_W rfl }
theorem g_laws_markWaitS_M : G_laws_markWaitS_M Ev := { is := is_W rfl }
theorem g_laws_markVersionS_M : G_laws_markVersionS_M Ev := { is := is_W rfl }
theorem g_laws_markVersionSS_M : G_laws_markVersionSS_M Ev := { is := is_W rfl, c_laws_markVersionS_M := g_laws_markVersionS_M }
theorem g_laws_FnExactNewNode : G_laws_FnExactNewNode Ev := { is := is_W rfl, c_spec_NewNode := g_spec_NewNode, c_impl_NewNode := g_impl_NewNode, c_laws_eqNode := g_laws_eqNode, c_laws_heldNode := g_laws_heldNode, c_impl_NewNode_F := g_impl_NewNode_F, c_laws_markTransactionS_M := g_laws_markTransactionS_M, c_laws_markLockS_M := g_laws_markLockS_M, c_laws_markWaitS_M := g_laws_markWaitS_M, c_laws_markVersionSS_M := g_laws_markVersionSS_M }
end Go.Proofs.Ytfdcdbkblkehcaa.Am.FnExactNewNode

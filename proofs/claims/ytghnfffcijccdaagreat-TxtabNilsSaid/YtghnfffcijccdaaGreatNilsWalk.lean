/- The walks of TxtabNils: every call of a table or machine that is not there. No conditions. -/
import Derived.Test.YtghnfffcijccdaaGreatProg
import Derived.WalkKit
import Derived.Below
import Derived.OwnWalk
import Derived.Tactics
import Derived.KernelRfl
import Derived.Outline
import Derived.WalkLawsBesides
import Derived.Laws.ResultCell
import Derived.Handy
import Derived.Deep.QuietTactic
import Derived.BigQuiet
import Derived.Deep.RegionWith
import Derived.Laws.EntriesVeiled
import Derived.Defers
import Derived.WalkSpells
namespace Go.Proofs.YtghnfffcijccdaaGreat.Nils
open Go.RowKit
set_option linter.unusedVariables false
set_option linter.unusedSimpArgs false
theorem nb_then {w a b : World} (h : Below w.heap.size w a) (k : Below a.heap.size a b) : Below w.heap.size w b := h.trans (k.mono h.size)
theorem nb_alloc {w w1 : World} (h : Below w.heap.size w w1) (o : Obj) : Below w.heap.size w (w1.alloc o) := h.alloc h.size o
theorem Table_Start (a : Int) (w : World) : Calls Tryz.prog 15 #[.pointer none, .int .i64 a] w fun e w' => e = .returned (.pointer none) ∧ w = w' := by
  go_enter Tryz.func15, Tryz.ntmps15
  go_wp2
  first | (go_ret; exact ⟨rfl, rfl⟩) | (go_ret2; exact ⟨rfl, rfl⟩) | (go_ret3; exact ⟨rfl, rfl⟩)
theorem Table_Draw (a : Int) (w : World) : Calls Tryz.prog 16 #[.pointer none, .int .i64 a] w fun e w' => e = .returned (.pointer none) ∧ w = w' := by
  go_enter Tryz.func16, Tryz.ntmps16
  go_wp2
  first | (go_ret; exact ⟨rfl, rfl⟩) | (go_ret2; exact ⟨rfl, rfl⟩) | (go_ret3; exact ⟨rfl, rfl⟩)
theorem Table_Close (a : Int) (w : World) : Calls Tryz.prog 18 #[.pointer none, .int .i64 a] w fun e w' => e = .returned (.pointer none) ∧ w = w' := by
  go_enter Tryz.func18, Tryz.ntmps18
  go_wp2
  first | (go_ret; exact ⟨rfl, rfl⟩) | (go_ret2; exact ⟨rfl, rfl⟩) | (go_ret3; exact ⟨rfl, rfl⟩)
theorem Table_Leave (a : Int) (w : World) : Calls Tryz.prog 20 #[.pointer none, .int .i64 a] w fun e w' => e = .returned (.pointer none) ∧ w = w' := by
  go_enter Tryz.func20, Tryz.ntmps20
  go_wp2
  first | (go_ret; exact ⟨rfl, rfl⟩) | (go_ret2; exact ⟨rfl, rfl⟩) | (go_ret3; exact ⟨rfl, rfl⟩)
theorem Table_Quit (a : Int) (w : World) : Calls Tryz.prog 21 #[.pointer none, .int .i64 a] w fun e w' => e = .returned (.pointer none) ∧ w = w' := by
  go_enter Tryz.func21, Tryz.ntmps21
  go_wp2
  first | (go_ret; exact ⟨rfl, rfl⟩) | (go_ret2; exact ⟨rfl, rfl⟩) | (go_ret3; exact ⟨rfl, rfl⟩)
theorem Table_Depend (a : Int) (b : Int) (w : World) : Calls Tryz.prog 17 #[.pointer none, .int .i64 a, .int .i64 b] w fun e w' => e = .returned (.pointer none) ∧ w = w' := by
  go_enter Tryz.func17, Tryz.ntmps17
  go_wp2
  first | (go_ret; exact ⟨rfl, rfl⟩) | (go_ret2; exact ⟨rfl, rfl⟩) | (go_ret3; exact ⟨rfl, rfl⟩)
theorem Table_Floor (w : World) : Calls Tryz.prog 19 #[.pointer none] w fun e w' => e = .returned (.pointer none) ∧ w = w' := by
  go_enter Tryz.func19, Tryz.ntmps19
  go_wp2
  first | (go_ret; exact ⟨rfl, rfl⟩) | (go_ret2; exact ⟨rfl, rfl⟩) | (go_ret3; exact ⟨rfl, rfl⟩)
theorem Start_Step (w : World) : Calls Tryz.prog 22 #[.pointer none] w fun e w' => e = .returned (.bool true) ∧ w = w' := by
  go_enter Tryz.func22, Tryz.ntmps22
  go_wp2
  first | (go_ret; exact ⟨rfl, rfl⟩) | (go_ret2; exact ⟨rfl, rfl⟩) | (go_ret3; exact ⟨rfl, rfl⟩)
theorem Start_Code (w : World) : Calls Tryz.prog 29 #[.pointer none] w fun e w' => e = .returned (.int .i64 1) ∧ w = w' := by
  go_enter Tryz.func29, Tryz.ntmps29
  go_wp2
  first | (go_ret; exact ⟨rfl, rfl⟩) | (go_ret2; exact ⟨rfl, rfl⟩) | (go_ret3; exact ⟨rfl, rfl⟩)
theorem Draw_Step (w : World) : Calls Tryz.prog 23 #[.pointer none] w fun e w' => e = .returned (.bool true) ∧ w = w' := by
  go_enter Tryz.func23, Tryz.ntmps23
  go_wp2
  first | (go_ret; exact ⟨rfl, rfl⟩) | (go_ret2; exact ⟨rfl, rfl⟩) | (go_ret3; exact ⟨rfl, rfl⟩)
theorem Draw_Code (w : World) : Calls Tryz.prog 30 #[.pointer none] w fun e w' => e = .returned (.int .i64 1) ∧ w = w' := by
  go_enter Tryz.func30, Tryz.ntmps30
  go_wp2
  first | (go_ret; exact ⟨rfl, rfl⟩) | (go_ret2; exact ⟨rfl, rfl⟩) | (go_ret3; exact ⟨rfl, rfl⟩)
theorem Depend_Step (w : World) : Calls Tryz.prog 24 #[.pointer none] w fun e w' => e = .returned (.bool true) ∧ w = w' := by
  go_enter Tryz.func24, Tryz.ntmps24
  go_wp2
  first | (go_ret; exact ⟨rfl, rfl⟩) | (go_ret2; exact ⟨rfl, rfl⟩) | (go_ret3; exact ⟨rfl, rfl⟩)
theorem Depend_Code (w : World) : Calls Tryz.prog 31 #[.pointer none] w fun e w' => e = .returned (.int .i64 1) ∧ w = w' := by
  go_enter Tryz.func31, Tryz.ntmps31
  go_wp2
  first | (go_ret; exact ⟨rfl, rfl⟩) | (go_ret2; exact ⟨rfl, rfl⟩) | (go_ret3; exact ⟨rfl, rfl⟩)
theorem Close_Step (w : World) : Calls Tryz.prog 25 #[.pointer none] w fun e w' => e = .returned (.bool true) ∧ w = w' := by
  go_enter Tryz.func25, Tryz.ntmps25
  go_wp2
  first | (go_ret; exact ⟨rfl, rfl⟩) | (go_ret2; exact ⟨rfl, rfl⟩) | (go_ret3; exact ⟨rfl, rfl⟩)
theorem Close_Code (w : World) : Calls Tryz.prog 32 #[.pointer none] w fun e w' => e = .returned (.int .i64 1) ∧ w = w' := by
  go_enter Tryz.func32, Tryz.ntmps32
  go_wp2
  first | (go_ret; exact ⟨rfl, rfl⟩) | (go_ret2; exact ⟨rfl, rfl⟩) | (go_ret3; exact ⟨rfl, rfl⟩)
theorem Floor_Step (w : World) : Calls Tryz.prog 26 #[.pointer none] w fun e w' => e = .returned (.bool true) ∧ w = w' := by
  go_enter Tryz.func26, Tryz.ntmps26
  go_wp2
  first | (go_ret; exact ⟨rfl, rfl⟩) | (go_ret2; exact ⟨rfl, rfl⟩) | (go_ret3; exact ⟨rfl, rfl⟩)
theorem Floor_Code (w : World) : Calls Tryz.prog 33 #[.pointer none] w fun e w' => e = .returned (.int .i64 1) ∧ w = w' := by
  go_enter Tryz.func33, Tryz.ntmps33
  go_wp2
  first | (go_ret; exact ⟨rfl, rfl⟩) | (go_ret2; exact ⟨rfl, rfl⟩) | (go_ret3; exact ⟨rfl, rfl⟩)
theorem Leave_Step (w : World) : Calls Tryz.prog 27 #[.pointer none] w fun e w' => e = .returned (.bool true) ∧ w = w' := by
  go_enter Tryz.func27, Tryz.ntmps27
  go_wp2
  first | (go_ret; exact ⟨rfl, rfl⟩) | (go_ret2; exact ⟨rfl, rfl⟩) | (go_ret3; exact ⟨rfl, rfl⟩)
theorem Leave_Code (w : World) : Calls Tryz.prog 34 #[.pointer none] w fun e w' => e = .returned (.int .i64 1) ∧ w = w' := by
  go_enter Tryz.func34, Tryz.ntmps34
  go_wp2
  first | (go_ret; exact ⟨rfl, rfl⟩) | (go_ret2; exact ⟨rfl, rfl⟩) | (go_ret3; exact ⟨rfl, rfl⟩)
theorem Quit_Step (w : World) : Calls Tryz.prog 28 #[.pointer none] w fun e w' => e = .returned (.bool true) ∧ w = w' := by
  go_enter Tryz.func28, Tryz.ntmps28
  go_wp2
  first | (go_ret; exact ⟨rfl, rfl⟩) | (go_ret2; exact ⟨rfl, rfl⟩) | (go_ret3; exact ⟨rfl, rfl⟩)
theorem Quit_Code (w : World) : Calls Tryz.prog 35 #[.pointer none] w fun e w' => e = .returned (.int .i64 1) ∧ w = w' := by
  go_enter Tryz.func35, Tryz.ntmps35
  go_wp2
  first | (go_ret; exact ⟨rfl, rfl⟩) | (go_ret2; exact ⟨rfl, rfl⟩) | (go_ret3; exact ⟨rfl, rfl⟩)
theorem Start_Begin (w : World) : Calls Tryz.prog 36 #[.pointer none] w fun e w' => e = .returned (.int .u64 0) ∧ w = w' := by
  go_enter Tryz.func36, Tryz.ntmps36
  go_wp2
  first | (go_ret; exact ⟨rfl, rfl⟩) | (go_ret2; exact ⟨rfl, rfl⟩) | (go_ret3; exact ⟨rfl, rfl⟩)
theorem Draw_End (w : World) : Calls Tryz.prog 37 #[.pointer none] w fun e w' => e = .returned (.int .u64 0) ∧ w = w' := by
  go_enter Tryz.func37, Tryz.ntmps37
  go_wp2
  first | (go_ret; exact ⟨rfl, rfl⟩) | (go_ret2; exact ⟨rfl, rfl⟩) | (go_ret3; exact ⟨rfl, rfl⟩)
theorem Depend_Came (w : World) : Calls Tryz.prog 38 #[.pointer none] w fun e w' => e = .returned (.int .i64 0) ∧ w = w' := by
  go_enter Tryz.func38, Tryz.ntmps38
  go_wp2
  first | (go_ret; exact ⟨rfl, rfl⟩) | (go_ret2; exact ⟨rfl, rfl⟩) | (go_ret3; exact ⟨rfl, rfl⟩)
theorem Close_Told (w : World) : Calls Tryz.prog 39 #[.pointer none] w fun e w' => e = .returned (.int .i64 0) ∧ w = w' := by
  go_enter Tryz.func39, Tryz.ntmps39
  go_wp2
  first | (go_ret; exact ⟨rfl, rfl⟩) | (go_ret2; exact ⟨rfl, rfl⟩) | (go_ret3; exact ⟨rfl, rfl⟩)
theorem Floor_Floor (w : World) : Calls Tryz.prog 40 #[.pointer none] w fun e w' => e = .returned (.int .u64 0) ∧ w = w' := by
  go_enter Tryz.func40, Tryz.ntmps40
  go_wp2
  first | (go_ret; exact ⟨rfl, rfl⟩) | (go_ret2; exact ⟨rfl, rfl⟩) | (go_ret3; exact ⟨rfl, rfl⟩)
theorem Table_Clock (w : World) : Calls Tryz.prog 60 #[.pointer none] w fun e w' => e = .returned (.tuple #[.int .u64 0, .int .i64 1]) ∧ w = w' := by
  go_enter Tryz.func60, Tryz.ntmps60
  go_wp2
  first | (go_ret; exact ⟨rfl, rfl⟩) | (go_ret2; exact ⟨rfl, rfl⟩) | (go_ret3; exact ⟨rfl, rfl⟩)
theorem Table_Tick (w : World) : Calls Tryz.prog 61 #[.pointer none] w fun e w' => e = .returned (.tuple #[.int .u64 0, .int .i64 1]) ∧ w = w' := by
  go_enter Tryz.func61, Tryz.ntmps61
  go_wp2
  first | (go_ret; exact ⟨rfl, rfl⟩) | (go_ret2; exact ⟨rfl, rfl⟩) | (go_ret3; exact ⟨rfl, rfl⟩)
theorem Table_Open (a b : Int) (w : World) : Calls Tryz.prog 62 #[.pointer none, .agg #[.int .i64 a, .int .i64 b]] w fun e w' => e = .returned (.tuple #[.int .i64 0, .int .i64 1]) ∧ Below w.heap.size w w' := by
  go_enter Tryz.func62, Tryz.ntmps62
  go_wp2
  first | (go_ret; exact ⟨rfl, by repeat (first | exact Below.refl _ _ | apply nb_alloc | apply Below.drew | refine Below.setCell ?_ (by simp) _)⟩) | (go_ret2; exact ⟨rfl, by repeat (first | exact Below.refl _ _ | apply nb_alloc | apply Below.drew | refine Below.setCell ?_ (by simp) _)⟩) | (go_ret3; exact ⟨rfl, by repeat (first | exact Below.refl _ _ | apply nb_alloc | apply Below.drew | refine Below.setCell ?_ (by simp) _)⟩)
theorem Table_Info (a : Int) (w : World) : Calls Tryz.prog 63 #[.pointer none, .int .i64 a] w fun e w' => e = .returned (.tuple #[.agg #[.int .i64 0, .int .i64 0], .int .i64 1]) ∧ Below w.heap.size w w' := by
  go_enter Tryz.func63, Tryz.ntmps63
  go_wp2
  exact bodyPost_ret (v := .tuple #[.agg #[.int .i64 0, .int .i64 0], .int .i64 1]) (by simp [results, Tryz.results63, go_sem]) rfl ⟨rfl, by repeat (first | exact Below.refl _ _ | apply nb_alloc | apply Below.drew)⟩
theorem Table_Announced (a : Int) (w : World) : Calls Tryz.prog 65 #[.pointer none, .int .i64 a] w fun e w' => e = .returned (.tuple #[.int .u64 0, .int .i64 1]) ∧ w = w' := by
  go_enter Tryz.func65, Tryz.ntmps65
  go_wp2
  first | (go_ret; exact ⟨rfl, rfl⟩) | (go_ret2; exact ⟨rfl, rfl⟩) | (go_ret3; exact ⟨rfl, rfl⟩)
theorem Table_Free (a : Int) (w : World) : Calls Tryz.prog 68 #[.pointer none, .int .u64 a] w fun e w' => e = .returned (.tuple #[.bool false, .int .i64 1]) ∧ w = w' := by
  go_enter Tryz.func68, Tryz.ntmps68
  go_wp2
  first | (go_ret; exact ⟨rfl, rfl⟩) | (go_ret2; exact ⟨rfl, rfl⟩) | (go_ret3; exact ⟨rfl, rfl⟩)
theorem Table_Look (a : Int) (w : World) : Calls Tryz.prog 73 #[.pointer none, .int .i64 a] w fun e w' => e = .returned (.tuple #[.int .i64 0, .int .u64 0, .int .i64 1]) ∧ w = w' := by
  go_enter Tryz.func73, Tryz.ntmps73
  go_wp2
  first | (go_ret; exact ⟨rfl, rfl⟩) | (go_ret2; exact ⟨rfl, rfl⟩) | (go_ret3; exact ⟨rfl, rfl⟩)
theorem Table_Horizon (w : World) : Calls Tryz.prog 74 #[.pointer none] w fun e w' => e = .returned (.tuple #[.int .u64 0, .int .u64 0]) ∧ w = w' := by
  go_enter Tryz.func74, Tryz.ntmps74
  go_wp2
  first | (go_ret; exact ⟨rfl, rfl⟩) | (go_ret2; exact ⟨rfl, rfl⟩) | (go_ret3; exact ⟨rfl, rfl⟩)
theorem Table_Places (w : World) : Calls Tryz.prog 75 #[.pointer none] w fun e w' => e = .returned (.int .i64 0) ∧ w = w' := by
  go_enter Tryz.func75, Tryz.ntmps75
  go_wp2
  first | (go_ret; exact ⟨rfl, rfl⟩) | (go_ret2; exact ⟨rfl, rfl⟩) | (go_ret3; exact ⟨rfl, rfl⟩)
theorem Table_Accesses (w : World) : Calls Tryz.prog 76 #[.pointer none] w fun e w' => e = .returned (.int .i64 0) ∧ w = w' := by
  go_enter Tryz.func76, Tryz.ntmps76
  go_wp2
  first | (go_ret; exact ⟨rfl, rfl⟩) | (go_ret2; exact ⟨rfl, rfl⟩) | (go_ret3; exact ⟨rfl, rfl⟩)
theorem Table_Misses (w : World) : Calls Tryz.prog 77 #[.pointer none] w fun e w' => e = .returned (.int .i64 0) ∧ w = w' := by
  go_enter Tryz.func77, Tryz.ntmps77
  go_wp2
  first | (go_ret; exact ⟨rfl, rfl⟩) | (go_ret2; exact ⟨rfl, rfl⟩) | (go_ret3; exact ⟨rfl, rfl⟩)
theorem Table_Waiting (w : World) : Calls Tryz.prog 78 #[.pointer none] w fun e w' => e = .returned (.int .i64 0) ∧ w = w' := by
  go_enter Tryz.func78, Tryz.ntmps78
  go_wp2
  first | (go_ret; exact ⟨rfl, rfl⟩) | (go_ret2; exact ⟨rfl, rfl⟩) | (go_ret3; exact ⟨rfl, rfl⟩)
theorem Table_Live (w : World) : Calls Tryz.prog 47 #[.pointer none] w fun e w' => e = .returned (.slice none 0 0) ∧ w = w' := by
  go_enter Tryz.func47, Tryz.ntmps47
  go_wp2
  first | (go_ret; exact ⟨rfl, rfl⟩) | (go_ret2; exact ⟨rfl, rfl⟩) | (go_ret3; exact ⟨rfl, rfl⟩)
theorem with_nil (a : Int) (v : Value) (w : World) : Calls Tryz.prog 104 #[.pointer none, .int .i64 a, v] w fun e w' => e = .returned (.int .i64 1) ∧ w = w' := by
  go_enter Tryz.func104, Tryz.ntmps104
  go_wp2
  go_ret
  exact ⟨rfl, rfl⟩
theorem Table_Move (a b : Int) (w : World) : Calls Tryz.prog 69 #[.pointer none, .int .i64 a, .int .i64 b] w fun e w' => e = .returned (.int .i64 1) ∧ Below w.heap.size w w' := by
  go_enter Tryz.func69, Tryz.ntmps69
  go_wp2_with (first | (go_at_call 104; refine (with_nil _ _ _).mono ?_; rintro e w1 ⟨rfl, rfl⟩))
  go_ret
  exact ⟨rfl, by repeat (first | exact Below.refl _ _ | apply nb_alloc | apply Below.drew | refine Below.setCell ?_ (by simp) _)⟩
theorem Table_Announce (a b : Int) (w : World) : Calls Tryz.prog 70 #[.pointer none, .int .i64 a, .int .u64 b] w fun e w' => e = .returned (.int .i64 1) ∧ Below w.heap.size w w' := by
  go_enter Tryz.func70, Tryz.ntmps70
  go_wp2_with (first | (go_at_call 104; refine (with_nil _ _ _).mono ?_; rintro e w1 ⟨rfl, rfl⟩))
  go_ret
  exact ⟨rfl, by repeat (first | exact Below.refl _ _ | apply nb_alloc | apply Below.drew | refine Below.setCell ?_ (by simp) _)⟩
theorem Table_Retire (a b : Int) (w : World) : Calls Tryz.prog 71 #[.pointer none, .int .i64 a, .int .u64 b] w fun e w' => e = .returned (.int .i64 1) ∧ Below w.heap.size w w' := by
  go_enter Tryz.func71, Tryz.ntmps71
  go_wp2_with (first | (go_at_call 104; refine (with_nil _ _ _).mono ?_; rintro e w1 ⟨rfl, rfl⟩))
  go_ret
  exact ⟨rfl, by repeat (first | exact Below.refl _ _ | apply nb_alloc | apply Below.drew | refine Below.setCell ?_ (by simp) _)⟩
theorem Table_Drop (a : Int) (w : World) : Calls Tryz.prog 72 #[.pointer none, .int .i64 a] w fun e w' => e = .returned (.int .i64 1) ∧ Below w.heap.size w w' := by
  go_enter Tryz.func72, Tryz.ntmps72
  go_wp2_with (first | (go_at_call 104; refine (with_nil _ _ _).mono ?_; rintro e w1 ⟨rfl, rfl⟩))
  go_ret
  exact ⟨rfl, by repeat (first | exact Below.refl _ _ | apply nb_alloc | apply Below.drew | refine Below.setCell ?_ (by simp) _)⟩
theorem Table_State (a : Int) (w : World) : Calls Tryz.prog 64 #[.pointer none, .int .i64 a] w fun e w' => e = .returned (.tuple #[.int .i64 0, .int .i64 1]) ∧ Below w.heap.size w w' := by
  go_enter Tryz.func64, Tryz.ntmps64
  go_wp2_with (first | (go_at_call 104; refine (with_nil _ _ _).mono ?_; rintro e w1 ⟨rfl, rfl⟩))
  exact bodyPost_ret (v := .tuple #[.int .i64 0, .int .i64 1]) (by simp [results, Tryz.results64, go_sem]) rfl ⟨rfl, by repeat (first | exact Below.refl _ _ | apply nb_alloc | apply Below.drew | refine Below.setCell ?_ (by simp) _)⟩
theorem Table_End (a : Int) (w : World) : Calls Tryz.prog 66 #[.pointer none, .int .i64 a] w fun e w' => e = .returned (.tuple #[.int .u64 0, .int .i64 1]) ∧ Below w.heap.size w w' := by
  go_enter Tryz.func66, Tryz.ntmps66
  go_wp2_with (first | (go_at_call 104; refine (with_nil _ _ _).mono ?_; rintro e w1 ⟨rfl, rfl⟩))
  exact bodyPost_ret (v := .tuple #[.int .u64 0, .int .i64 1]) (by simp [results, Tryz.results66, go_sem]) rfl ⟨rfl, by repeat (first | exact Below.refl _ _ | apply nb_alloc | apply Below.drew | refine Below.setCell ?_ (by simp) _)⟩
theorem Table_Waits (a : Int) (w : World) : Calls Tryz.prog 67 #[.pointer none, .int .i64 a] w fun e w' => e = .returned (.tuple #[.int .i64 0, .int .i64 0, .int .i64 1]) ∧ Below w.heap.size w w' := by
  go_enter Tryz.func67, Tryz.ntmps67
  go_wp2_with (first | (go_at_call 104; refine (with_nil _ _ _).mono ?_; rintro e w1 ⟨rfl, rfl⟩))
  go_region
  all_goals go_wp2
  all_goals exact bodyPost_ret (v := .tuple #[.int .i64 0, .int .i64 0, .int .i64 1]) (by simp [results, Tryz.results67, go_sem]) rfl ⟨rfl, by repeat (first | exact Below.refl _ _ | apply nb_alloc | apply Below.drew | refine Below.setCell ?_ (by simp) _)⟩
theorem cell_mono {W W1 : World} {b o : Nat} {v : Value} (hb : Below W.heap.size W W1) (h : W.cell? ⟨b, o, none⟩ = some v) : W1.cell? ⟨b, o, none⟩ = some v :=
  (hb.cell (World.block_lt_of_cell? W _ h)).trans h
set_option maxRecDepth 100000 in
set_option maxHeartbeats 2000000 in
theorem nilTable (w : World) : Calls Tryz.prog 41 #[] w fun e w' => e = .returned (.bool true) ∧ Below w.heap.size w w' := by
  go_enter Tryz.func41, Tryz.ntmps41
  go_wp2_with (first | (go_at_call 60; refine (Table_Clock _).mono ?_; rintro e w1 ⟨rfl, rfl⟩) | (go_at_call 61; refine (Table_Tick _).mono ?_; rintro e w1 ⟨rfl, rfl⟩) | (go_at_call 65; refine (Table_Announced _ _).mono ?_; rintro e w1 ⟨rfl, rfl⟩) | (go_at_call 68; refine (Table_Free _ _).mono ?_; rintro e w1 ⟨rfl, rfl⟩) | (go_at_call 73; refine (Table_Look _ _).mono ?_; rintro e w1 ⟨rfl, rfl⟩) | (go_at_call 74; refine (Table_Horizon _).mono ?_; rintro e w1 ⟨rfl, rfl⟩) | (go_at_call 75; refine (Table_Places _).mono ?_; rintro e w1 ⟨rfl, rfl⟩) | (go_at_call 76; refine (Table_Accesses _).mono ?_; rintro e w1 ⟨rfl, rfl⟩) | (go_at_call 77; refine (Table_Misses _).mono ?_; rintro e w1 ⟨rfl, rfl⟩) | (go_at_call 78; refine (Table_Waiting _).mono ?_; rintro e w1 ⟨rfl, rfl⟩) | (go_at_call 47; refine (Table_Live _).mono ?_; rintro e w1 ⟨rfl, rfl⟩) | (go_at_call 62; refine (Table_Open _ _ _).mono ?_; rintro e wO ⟨rfl, hbO⟩) | (go_at_call 63; refine (Table_Info _ _).mono ?_; rintro e wI ⟨rfl, hbI⟩) | (go_at_call 64; refine (Table_State _ _).mono ?_; rintro e wS ⟨rfl, hbS⟩; have hs0 := cell_mono (b := wI.heap.size) (o := 0) hbS (World.cell?_alloc_new _ _ _ _); have hs1 := cell_mono (b := wI.heap.size) (o := 1) hbS (World.cell?_alloc_new _ _ _ _)) | (go_at_call 66; refine (Table_End _ _).mono ?_; rintro e wE ⟨rfl, hbE⟩; have he0 := cell_mono hbE hs0; have he1 := cell_mono hbE hs1) | (go_at_call 67; refine (Table_Waits _ _).mono ?_; rintro e wW ⟨rfl, hbW⟩; have hw0 := cell_mono hbW he0; have hw1 := cell_mono hbW he1) | (go_at_call 69; refine (Table_Move _ _ _).mono ?_; rintro e wM ⟨rfl, hbM⟩; have hm0 := cell_mono hbM hw0; have hm1 := cell_mono hbM hw1) | (go_at_call 70; refine (Table_Announce _ _ _).mono ?_; rintro e wN ⟨rfl, hbN⟩; have hn0 := cell_mono hbN hm0; have hn1 := cell_mono hbN hm1) | (go_at_call 71; refine (Table_Retire _ _ _).mono ?_; rintro e wR ⟨rfl, hbR⟩; have hr0 := cell_mono hbR hn0; have hr1 := cell_mono hbR hn1) | (go_at_call 72; refine (Table_Drop _ _).mono ?_; rintro e wD ⟨rfl, hbD⟩; have hd0 := cell_mono hbD hr0; have hd1 := cell_mono hbD hr1))
  go_ret
  exact ⟨rfl, nb_then (nb_then (nb_then (nb_then (nb_then (nb_then (nb_then (nb_then (nb_alloc (nb_then hbO hbI) _) hbS) hbE) hbW) hbM) hbN) hbR) hbD) (Below.refl _ _)⟩
set_option maxRecDepth 100000 in
set_option maxHeartbeats 2000000 in
theorem all (w : World) : Calls Tryz.prog 7 #[] w fun e w' => e = .returned (.bool true) ∧ Below w.heap.size w w' := by
  go_enter Tryz.func7, Tryz.ntmps7
  go_wp2_with (first | (go_at_call 15; refine (Table_Start _ _).mono ?_; rintro e w1 ⟨rfl, rfl⟩) | (go_at_call 16; refine (Table_Draw _ _).mono ?_; rintro e w1 ⟨rfl, rfl⟩) | (go_at_call 17; refine (Table_Depend _ _ _).mono ?_; rintro e w1 ⟨rfl, rfl⟩) | (go_at_call 18; refine (Table_Close _ _).mono ?_; rintro e w1 ⟨rfl, rfl⟩) | (go_at_call 19; refine (Table_Floor _).mono ?_; rintro e w1 ⟨rfl, rfl⟩) | (go_at_call 20; refine (Table_Leave _ _).mono ?_; rintro e w1 ⟨rfl, rfl⟩) | (go_at_call 21; refine (Table_Quit _ _).mono ?_; rintro e w1 ⟨rfl, rfl⟩) | (go_at_call 22; refine (Start_Step _).mono ?_; rintro e w1 ⟨rfl, rfl⟩) | (go_at_call 29; refine (Start_Code _).mono ?_; rintro e w1 ⟨rfl, rfl⟩) | (go_at_call 23; refine (Draw_Step _).mono ?_; rintro e w1 ⟨rfl, rfl⟩) | (go_at_call 30; refine (Draw_Code _).mono ?_; rintro e w1 ⟨rfl, rfl⟩) | (go_at_call 24; refine (Depend_Step _).mono ?_; rintro e w1 ⟨rfl, rfl⟩) | (go_at_call 31; refine (Depend_Code _).mono ?_; rintro e w1 ⟨rfl, rfl⟩) | (go_at_call 25; refine (Close_Step _).mono ?_; rintro e w1 ⟨rfl, rfl⟩) | (go_at_call 32; refine (Close_Code _).mono ?_; rintro e w1 ⟨rfl, rfl⟩) | (go_at_call 26; refine (Floor_Step _).mono ?_; rintro e w1 ⟨rfl, rfl⟩) | (go_at_call 33; refine (Floor_Code _).mono ?_; rintro e w1 ⟨rfl, rfl⟩) | (go_at_call 27; refine (Leave_Step _).mono ?_; rintro e w1 ⟨rfl, rfl⟩) | (go_at_call 34; refine (Leave_Code _).mono ?_; rintro e w1 ⟨rfl, rfl⟩) | (go_at_call 28; refine (Quit_Step _).mono ?_; rintro e w1 ⟨rfl, rfl⟩) | (go_at_call 35; refine (Quit_Code _).mono ?_; rintro e w1 ⟨rfl, rfl⟩) | (go_at_call 36; refine (Start_Begin _).mono ?_; rintro e w1 ⟨rfl, rfl⟩) | (go_at_call 37; refine (Draw_End _).mono ?_; rintro e w1 ⟨rfl, rfl⟩) | (go_at_call 38; refine (Depend_Came _).mono ?_; rintro e w1 ⟨rfl, rfl⟩) | (go_at_call 39; refine (Close_Told _).mono ?_; rintro e w1 ⟨rfl, rfl⟩) | (go_at_call 40; refine (Floor_Floor _).mono ?_; rintro e w1 ⟨rfl, rfl⟩) | (go_at_call 41; refine (nilTable _).mono ?_; rintro e wT ⟨rfl, hb⟩))
  go_ret
  exact ⟨rfl, hb⟩
end Go.Proofs.YtghnfffcijccdaaGreat.Nils

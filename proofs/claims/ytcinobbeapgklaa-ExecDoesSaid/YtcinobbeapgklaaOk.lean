/- YtcinobbeapgklaaOk: what the trees say of the functions. No statement of the seat is proved here. -/
import Derived.Test.YtcinobbeapgklaaEq0
import Derived.Test.YtcinobbeapgklaaEq1
import Derived.Test.YtcinobbeapgklaaEq2
import Derived.Test.YtcinobbeapgklaaEq3
import Derived.Test.YtcinobbeapgklaaChecked
namespace Go.Proofs.Ytcinobbeapgklaa
open Go Go.A2
theorem mixed : Try.prog.follows .mixedOrders = true := by kernel_rfl
theorem comp_exec_behind : Compiled Try.prog cx 21 g_exec_behind := compiled_of' (x := x_exec_behind) Try.func21 (by kernel_rfl) (by kernel_rfl)
theorem ht_exec_behind : ∀ f, ∀ K ∈ t_exec_behind f, FnOk Try.prog f K := fun f K h => by cases h
theorem s_exec_behind : FnOk Try.prog 21 N_exec_behind := fn_ok mixed tabOk ht_exec_behind comp_exec_behind h_exec_behind (T := fun d => T_exec_behind (show TUop × Unit from d).1) (fun d => by kernel_rfl) e_exec_behind
theorem comp_exec_between : Compiled Try.prog cx 22 g_exec_between := compiled_of' (x := x_exec_between) Try.func22 (by kernel_rfl) (by kernel_rfl)
theorem ht_exec_between : ∀ f, ∀ K ∈ t_exec_between f, FnOk Try.prog f K := fun f K h => by cases h
theorem s_exec_between : FnOk Try.prog 22 N_exec_between := fn_ok mixed tabOk ht_exec_between comp_exec_between h_exec_between (T := fun d => T_exec_between (show W .i64 × W .i64 × W .i64 × Unit from d).1 (show W .i64 × W .i64 × W .i64 × Unit from d).2.1 (show W .i64 × W .i64 × W .i64 × Unit from d).2.2.1) (fun d => by kernel_rfl) e_exec_between
theorem comp_mul_New : Compiled Try.prog cx 49 g_mul_New := compiled_of' (x := x_mul_New) Try.func49 (by kernel_rfl) (by kernel_rfl)
theorem ht_mul_New : ∀ f, ∀ K ∈ t_mul_New f, FnOk Try.prog f K := fun f K h => by cases h
theorem s_mul_New : FnOk Try.prog 49 N_mul_New := fn_ok mixed tabOk ht_mul_New comp_mul_New h_mul_New (T := fun d => T_mul_New (show W .u32 × W .u32 × Unit from d).1 (show W .u32 × W .u32 × Unit from d).2.1) (fun d => by kernel_rfl) e_mul_New
theorem comp_mul_Step : Compiled Try.prog cx 66 g_mul_Step := compiled_of' (x := x_mul_Step) Try.func66 (by kernel_rfl) (by kernel_rfl)
theorem ht_mul_Step : ∀ f, ∀ K ∈ t_mul_Step f, FnOk Try.prog f K := fun f K h => by cases h
theorem s_mul_Step : FnOk Try.prog 66 N_mul_Step := fn_ok mixed tabOk ht_mul_Step comp_mul_Step h_mul_Step (T := fun d => T_mul_Step (show TMul × Unit from d).1) (fun d => by kernel_rfl) e_mul_Step
theorem comp_mul_Run : Compiled Try.prog cx 48 g_mul_Run := compiled_of' (x := x_mul_Run) Try.func48 (by kernel_rfl) (by kernel_rfl)
theorem ht_mul_Run : ∀ f, ∀ K ∈ t_mul_Run f, FnOk Try.prog f K := by
  intro f K h
  unfold t_mul_Run at h
  split at h
  · rcases List.mem_cons.1 h with rfl | h
    · exact s_mul_Step
    · cases h
  · cases h
theorem s_mul_Run : FnOk Try.prog 48 N_mul_Run := fn_ok mixed tabOk ht_mul_Run comp_mul_Run h_mul_Run (T := fun d => T_mul_Run (show TMul × Unit from d).1) (fun d => by kernel_rfl) e_mul_Run
theorem comp_mul_less : Compiled Try.prog cx 50 g_mul_less := compiled_of' (x := x_mul_less) Try.func50 (by kernel_rfl) (by kernel_rfl)
theorem ht_mul_less : ∀ f, ∀ K ∈ t_mul_less f, FnOk Try.prog f K := fun f K h => by cases h
theorem s_mul_less : FnOk Try.prog 50 N_mul_less := fn_ok mixed tabOk ht_mul_less comp_mul_less h_mul_less (T := fun d => T_mul_less (show W .u32 × W .u32 × Unit from d).1 (show W .u32 × W .u32 × Unit from d).2.1) (fun d => by kernel_rfl) e_mul_less
theorem comp_mul_Do : Compiled Try.prog cx 35 g_mul_Do := compiled_of' (x := x_mul_Do) Try.func35 (by kernel_rfl) (by kernel_rfl)
theorem ht_mul_Do : ∀ f, ∀ K ∈ t_mul_Do f, FnOk Try.prog f K := by
  intro f K h
  unfold t_mul_Do at h
  split at h
  · rcases List.mem_cons.1 h with rfl | h
    · exact s_mul_Run
    · cases h
  · rcases List.mem_cons.1 h with rfl | h
    · exact s_mul_New
    · cases h
  · rcases List.mem_cons.1 h with rfl | h
    · exact s_mul_less
    · cases h
  · cases h
theorem s_mul_Do : FnOk Try.prog 35 N_mul_Do := fn_ok mixed tabOk ht_mul_Do comp_mul_Do h_mul_Do (T := fun d => T_mul_Do (show W .i64 × W .u32 × W .u32 × Unit from d).1 (show W .i64 × W .u32 × W .u32 × Unit from d).2.1 (show W .i64 × W .u32 × W .u32 × Unit from d).2.2.1) (fun d => by kernel_rfl) e_mul_Do
theorem comp_div_New : Compiled Try.prog cx 52 g_div_New := compiled_of' (x := x_div_New) Try.func52 (by kernel_rfl) (by kernel_rfl)
theorem ht_div_New : ∀ f, ∀ K ∈ t_div_New f, FnOk Try.prog f K := fun f K h => by cases h
theorem s_div_New : FnOk Try.prog 52 N_div_New := fn_ok mixed tabOk ht_div_New comp_div_New h_div_New (T := fun d => T_div_New (show W .u32 × W .u32 × Unit from d).1 (show W .u32 × W .u32 × Unit from d).2.1) (fun d => by kernel_rfl) e_div_New
theorem comp_div_left : Compiled Try.prog cx 67 g_div_left := compiled_of' (x := x_div_left) Try.func67 (by kernel_rfl) (by kernel_rfl)
theorem ht_div_left : ∀ f, ∀ K ∈ t_div_left f, FnOk Try.prog f K := fun f K h => by cases h
theorem s_div_left : FnOk Try.prog 67 N_div_left := fn_ok mixed tabOk ht_div_left comp_div_left h_div_left (T := fun d => T_div_left (show W .i64 × Unit from d).1) (fun d => by kernel_rfl) e_div_left
theorem comp_div_Step : Compiled Try.prog cx 68 g_div_Step := compiled_of' (x := x_div_Step) Try.func68 (by kernel_rfl) (by kernel_rfl)
theorem ht_div_Step : ∀ f, ∀ K ∈ t_div_Step f, FnOk Try.prog f K := by
  intro f K h
  unfold t_div_Step at h
  split at h
  · rcases List.mem_cons.1 h with rfl | h
    · exact s_div_left
    · cases h
  · cases h
theorem s_div_Step : FnOk Try.prog 68 N_div_Step := fn_ok mixed tabOk ht_div_Step comp_div_Step h_div_Step (T := fun d => T_div_Step (show TDiv × Unit from d).1) (fun d => by kernel_rfl) e_div_Step
theorem comp_div_Run : Compiled Try.prog cx 51 g_div_Run := compiled_of' (x := x_div_Run) Try.func51 (by kernel_rfl) (by kernel_rfl)
theorem ht_div_Run : ∀ f, ∀ K ∈ t_div_Run f, FnOk Try.prog f K := by
  intro f K h
  unfold t_div_Run at h
  split at h
  · rcases List.mem_cons.1 h with rfl | h
    · exact s_div_left
    · cases h
  · rcases List.mem_cons.1 h with rfl | h
    · exact s_div_Step
    · cases h
  · cases h
theorem s_div_Run : FnOk Try.prog 51 N_div_Run := fn_ok mixed tabOk ht_div_Run comp_div_Run h_div_Run (T := fun d => T_div_Run (show TDiv × Unit from d).1) (fun d => by kernel_rfl) e_div_Run
theorem comp_div_away : Compiled Try.prog cx 53 g_div_away := compiled_of' (x := x_div_away) Try.func53 (by kernel_rfl) (by kernel_rfl)
theorem ht_div_away : ∀ f, ∀ K ∈ t_div_away f, FnOk Try.prog f K := fun f K h => by cases h
theorem s_div_away : FnOk Try.prog 53 N_div_away := fn_ok mixed tabOk ht_div_away comp_div_away h_div_away (T := fun d => T_div_away (show W .u32 × Unit from d).1) (fun d => by kernel_rfl) e_div_away
theorem comp_div_Do : Compiled Try.prog cx 36 g_div_Do := compiled_of' (x := x_div_Do) Try.func36 (by kernel_rfl) (by kernel_rfl)
theorem ht_div_Do : ∀ f, ∀ K ∈ t_div_Do f, FnOk Try.prog f K := by
  intro f K h
  unfold t_div_Do at h
  split at h
  · rcases List.mem_cons.1 h with rfl | h
    · exact s_div_Run
    · cases h
  · rcases List.mem_cons.1 h with rfl | h
    · exact s_div_New
    · cases h
  · rcases List.mem_cons.1 h with rfl | h
    · exact s_div_away
    · cases h
  · cases h
theorem s_div_Do : FnOk Try.prog 36 N_div_Do := fn_ok mixed tabOk ht_div_Do comp_div_Do h_div_Do (T := fun d => T_div_Do (show W .i64 × W .u32 × W .u32 × Unit from d).1 (show W .i64 × W .u32 × W .u32 × Unit from d).2.1 (show W .i64 × W .u32 × W .u32 × Unit from d).2.2.1) (fun d => by kernel_rfl) e_div_Do
theorem comp_alu_one : Compiled Try.prog cx 54 g_alu_one := compiled_of' (x := x_alu_one) Try.func54 (by kernel_rfl) (by kernel_rfl)
theorem ht_alu_one : ∀ f, ∀ K ∈ t_alu_one f, FnOk Try.prog f K := fun f K h => by cases h
theorem s_alu_one : FnOk Try.prog 54 N_alu_one := fn_ok mixed tabOk ht_alu_one comp_alu_one h_alu_one (T := fun d => T_alu_one (show Bool × Unit from d).1) (fun d => by kernel_rfl) e_alu_one
theorem comp_alu_Clz : Compiled Try.prog cx 69 g_alu_Clz := compiled_of' (x := x_alu_Clz) Try.func69 (by kernel_rfl) (by kernel_rfl)
theorem ht_alu_Clz : ∀ f, ∀ K ∈ t_alu_Clz f, FnOk Try.prog f K := fun f K h => by cases h
theorem s_alu_Clz : FnOk Try.prog 69 N_alu_Clz := fn_ok mixed tabOk ht_alu_Clz comp_alu_Clz h_alu_Clz (T := fun d => T_alu_Clz (show W .u32 × Unit from d).1) (fun d => by kernel_rfl) e_alu_Clz
theorem comp_alu_Pop : Compiled Try.prog cx 70 g_alu_Pop := compiled_of' (x := x_alu_Pop) Try.func70 (by kernel_rfl) (by kernel_rfl)
theorem ht_alu_Pop : ∀ f, ∀ K ∈ t_alu_Pop f, FnOk Try.prog f K := fun f K h => by cases h
theorem s_alu_Pop : FnOk Try.prog 70 N_alu_Pop := fn_ok mixed tabOk ht_alu_Pop comp_alu_Pop h_alu_Pop (T := fun d => T_alu_Pop (show W .u32 × Unit from d).1) (fun d => by kernel_rfl) e_alu_Pop
theorem comp_alu_Rev : Compiled Try.prog cx 71 g_alu_Rev := compiled_of' (x := x_alu_Rev) Try.func71 (by kernel_rfl) (by kernel_rfl)
theorem ht_alu_Rev : ∀ f, ∀ K ∈ t_alu_Rev f, FnOk Try.prog f K := fun f K h => by cases h
theorem s_alu_Rev : FnOk Try.prog 71 N_alu_Rev := fn_ok mixed tabOk ht_alu_Rev comp_alu_Rev h_alu_Rev (T := fun d => T_alu_Rev (show W .u32 × Unit from d).1) (fun d => by kernel_rfl) e_alu_Rev
theorem comp_alu_single : Compiled Try.prog cx 55 g_alu_single := compiled_of' (x := x_alu_single) Try.func55 (by kernel_rfl) (by kernel_rfl)
theorem ht_alu_single : ∀ f, ∀ K ∈ t_alu_single f, FnOk Try.prog f K := by
  intro f K h
  unfold t_alu_single at h
  split at h
  · rcases List.mem_cons.1 h with rfl | h
    · exact s_alu_Clz
    · cases h
  · rcases List.mem_cons.1 h with rfl | h
    · exact s_alu_Pop
    · cases h
  · rcases List.mem_cons.1 h with rfl | h
    · exact s_alu_Rev
    · cases h
  · cases h
theorem s_alu_single : FnOk Try.prog 55 N_alu_single := fn_ok mixed tabOk ht_alu_single comp_alu_single h_alu_single (T := fun d => T_alu_single (show W .i64 × W .u32 × Unit from d).1 (show W .i64 × W .u32 × Unit from d).2.1) (fun d => by kernel_rfl) e_alu_single
theorem comp_alu_low : Compiled Try.prog cx 72 g_alu_low := compiled_of' (x := x_alu_low) Try.func72 (by kernel_rfl) (by kernel_rfl)
theorem ht_alu_low : ∀ f, ∀ K ∈ t_alu_low f, FnOk Try.prog f K := fun f K h => by cases h
theorem s_alu_low : FnOk Try.prog 72 N_alu_low := fn_ok mixed tabOk ht_alu_low comp_alu_low h_alu_low (T := fun d => T_alu_low (show W .u32 × Unit from d).1) (fun d => by kernel_rfl) e_alu_low
theorem comp_bits_RotateLeft32 : Compiled Try.prog cx 75 g_bits_RotateLeft32 := compiled_of' (x := x_bits_RotateLeft32) Try.func75 (by kernel_rfl) (by kernel_rfl)
theorem ht_bits_RotateLeft32 : ∀ f, ∀ K ∈ t_bits_RotateLeft32 f, FnOk Try.prog f K := fun f K h => by cases h
theorem s_bits_RotateLeft32 : FnOk Try.prog 75 N_bits_RotateLeft32 := fn_ok mixed tabOk ht_bits_RotateLeft32 comp_bits_RotateLeft32 h_bits_RotateLeft32 (T := fun d => T_bits_RotateLeft32 (show W .u32 × W .i64 × Unit from d).1 (show W .u32 × W .i64 × Unit from d).2.1) (fun d => by kernel_rfl) e_bits_RotateLeft32
theorem comp_bits_Rot : Compiled Try.prog cx 73 g_bits_Rot := compiled_of' (x := x_bits_Rot) Try.func73 (by kernel_rfl) (by kernel_rfl)
theorem ht_bits_Rot : ∀ f, ∀ K ∈ t_bits_Rot f, FnOk Try.prog f K := by
  intro f K h
  unfold t_bits_Rot at h
  split at h
  · rcases List.mem_cons.1 h with rfl | h
    · exact s_bits_RotateLeft32
    · cases h
  · cases h
theorem s_bits_Rot : FnOk Try.prog 73 N_bits_Rot := fn_ok mixed tabOk ht_bits_Rot comp_bits_Rot h_bits_Rot (T := fun d => T_bits_Rot (show W .u32 × W .i64 × Unit from d).1 (show W .u32 × W .i64 × Unit from d).2.1) (fun d => by kernel_rfl) e_bits_Rot
theorem comp_alu_logic : Compiled Try.prog cx 56 g_alu_logic := compiled_of' (x := x_alu_logic) Try.func56 (by kernel_rfl) (by kernel_rfl)
theorem ht_alu_logic : ∀ f, ∀ K ∈ t_alu_logic f, FnOk Try.prog f K := by
  intro f K h
  unfold t_alu_logic at h
  split at h
  · rcases List.mem_cons.1 h with rfl | h
    · exact s_alu_low
    · cases h
  · rcases List.mem_cons.1 h with rfl | h
    · exact s_bits_Rot
    · cases h
  · cases h
theorem s_alu_logic : FnOk Try.prog 56 N_alu_logic := fn_ok mixed tabOk ht_alu_logic comp_alu_logic h_alu_logic (T := fun d => T_alu_logic (show W .i64 × W .u32 × W .u32 × Unit from d).1 (show W .i64 × W .u32 × W .u32 × Unit from d).2.1 (show W .i64 × W .u32 × W .u32 × Unit from d).2.2.1) (fun d => by kernel_rfl) e_alu_logic
theorem comp_alu_Do : Compiled Try.prog cx 37 g_alu_Do := compiled_of' (x := x_alu_Do) Try.func37 (by kernel_rfl) (by kernel_rfl)
theorem ht_alu_Do : ∀ f, ∀ K ∈ t_alu_Do f, FnOk Try.prog f K := by
  intro f K h
  unfold t_alu_Do at h
  split at h
  · rcases List.mem_cons.1 h with rfl | h
    · exact s_alu_one
    · cases h
  · rcases List.mem_cons.1 h with rfl | h
    · exact s_alu_single
    · cases h
  · rcases List.mem_cons.1 h with rfl | h
    · exact s_alu_logic
    · cases h
  · cases h
theorem s_alu_Do : FnOk Try.prog 37 N_alu_Do := fn_ok mixed tabOk ht_alu_Do comp_alu_Do h_alu_Do (T := fun d => T_alu_Do (show W .i64 × W .u32 × W .u32 × Unit from d).1 (show W .i64 × W .u32 × W .u32 × Unit from d).2.1 (show W .i64 × W .u32 × W .u32 × Unit from d).2.2.1) (fun d => by kernel_rfl) e_alu_Do
theorem comp_exec_two : Compiled Try.prog cx 23 g_exec_two := compiled_of' (x := x_exec_two) Try.func23 (by kernel_rfl) (by kernel_rfl)
theorem ht_exec_two : ∀ f, ∀ K ∈ t_exec_two f, FnOk Try.prog f K := by
  intro f K h
  unfold t_exec_two at h
  split at h
  · rcases List.mem_cons.1 h with rfl | h
    · exact s_mul_Do
    · cases h
  · rcases List.mem_cons.1 h with rfl | h
    · exact s_div_Do
    · cases h
  · rcases List.mem_cons.1 h with rfl | h
    · exact s_alu_Do
    · cases h
  · cases h
theorem s_exec_two : FnOk Try.prog 23 N_exec_two := fn_ok mixed tabOk ht_exec_two comp_exec_two h_exec_two (T := fun d => T_exec_two (show W .i64 × W .u32 × W .u32 × Unit from d).1 (show W .i64 × W .u32 × W .u32 × Unit from d).2.1 (show W .i64 × W .u32 × W .u32 × Unit from d).2.2.1) (fun d => by kernel_rfl) e_exec_two
theorem comp_alu_Cmov : Compiled Try.prog cx 24 g_alu_Cmov := compiled_of' (x := x_alu_Cmov) Try.func24 (by kernel_rfl) (by kernel_rfl)
theorem ht_alu_Cmov : ∀ f, ∀ K ∈ t_alu_Cmov f, FnOk Try.prog f K := fun f K h => by cases h
theorem s_alu_Cmov : FnOk Try.prog 24 N_alu_Cmov := fn_ok mixed tabOk ht_alu_Cmov comp_alu_Cmov h_alu_Cmov (T := fun d => T_alu_Cmov (show W .u32 × W .u32 × W .u32 × Unit from d).1 (show W .u32 × W .u32 × W .u32 × Unit from d).2.1 (show W .u32 × W .u32 × W .u32 × Unit from d).2.2.1) (fun d => by kernel_rfl) e_alu_Cmov
theorem comp_alu_Taken : Compiled Try.prog cx 25 g_alu_Taken := compiled_of' (x := x_alu_Taken) Try.func25 (by kernel_rfl) (by kernel_rfl)
theorem ht_alu_Taken : ∀ f, ∀ K ∈ t_alu_Taken f, FnOk Try.prog f K := fun f K h => by cases h
theorem s_alu_Taken : FnOk Try.prog 25 N_alu_Taken := fn_ok mixed tabOk ht_alu_Taken comp_alu_Taken h_alu_Taken (T := fun d => T_alu_Taken (show W .i64 × W .u32 × W .u32 × Unit from d).1 (show W .i64 × W .u32 × W .u32 × Unit from d).2.1 (show W .i64 × W .u32 × W .u32 × Unit from d).2.2.1) (fun d => by kernel_rfl) e_alu_Taken
theorem comp_exec_ahead : Compiled Try.prog cx 26 g_exec_ahead := compiled_of' (x := x_exec_ahead) Try.func26 (by kernel_rfl) (by kernel_rfl)
theorem ht_exec_ahead : ∀ f, ∀ K ∈ t_exec_ahead f, FnOk Try.prog f K := fun f K h => by cases h
theorem s_exec_ahead : FnOk Try.prog 26 N_exec_ahead := fn_ok mixed tabOk ht_exec_ahead comp_exec_ahead h_exec_ahead (T := fun d => T_exec_ahead (show TUop × Unit from d).1) (fun d => by kernel_rfl) e_exec_ahead
theorem comp_exec_Do : Compiled Try.prog cx 7 g_exec_Do := compiled_of' (x := x_exec_Do) Try.func7 (by kernel_rfl) (by kernel_rfl)
theorem ht_exec_Do : ∀ f, ∀ K ∈ t_exec_Do f, FnOk Try.prog f K := by
  intro f K h
  unfold t_exec_Do at h
  split at h
  · rcases List.mem_cons.1 h with rfl | h
    · exact s_exec_behind
    · cases h
  · rcases List.mem_cons.1 h with rfl | h
    · exact s_exec_between
    · cases h
  · rcases List.mem_cons.1 h with rfl | h
    · exact s_exec_two
    · cases h
  · rcases List.mem_cons.1 h with rfl | h
    · exact s_alu_Cmov
    · cases h
  · rcases List.mem_cons.1 h with rfl | h
    · exact s_alu_Taken
    · cases h
  · rcases List.mem_cons.1 h with rfl | h
    · exact s_exec_ahead
    · cases h
  · cases h
theorem s_exec_Do : FnOk Try.prog 7 N_exec_Do := fn_ok mixed tabOk ht_exec_Do comp_exec_Do h_exec_Do (T := fun d => T_exec_Do (show TUop × Arr 3 (W .u32) × Unit from d).1 (show TUop × Arr 3 (W .u32) × Unit from d).2.1) (fun d => by kernel_rfl) e_exec_Do
theorem comp_ref04_signed : Compiled Try.prog cx 57 g_ref04_signed := compiled_of' (x := x_ref04_signed) Try.func57 (by kernel_rfl) (by kernel_rfl)
theorem ht_ref04_signed : ∀ f, ∀ K ∈ t_ref04_signed f, FnOk Try.prog f K := fun f K h => by cases h
theorem s_ref04_signed : FnOk Try.prog 57 N_ref04_signed := fn_ok mixed tabOk ht_ref04_signed comp_ref04_signed h_ref04_signed (T := fun d => T_ref04_signed (show W .u32 × Unit from d).1) (fun d => by kernel_rfl) e_ref04_signed
theorem comp_ref04_Do : Compiled Try.prog cx 38 g_ref04_Do := compiled_of' (x := x_ref04_Do) Try.func38 (by kernel_rfl) (by kernel_rfl)
theorem ht_ref04_Do : ∀ f, ∀ K ∈ t_ref04_Do f, FnOk Try.prog f K := by
  intro f K h
  unfold t_ref04_Do at h
  split at h
  · rcases List.mem_cons.1 h with rfl | h
    · exact s_ref04_signed
    · cases h
  · cases h
theorem s_ref04_Do : FnOk Try.prog 38 N_ref04_Do := fn_ok mixed tabOk ht_ref04_Do comp_ref04_Do h_ref04_Do (T := fun d => T_ref04_Do (show W .i64 × W .u32 × W .u32 × Unit from d).1 (show W .i64 × W .u32 × W .u32 × Unit from d).2.1 (show W .i64 × W .u32 × W .u32 × Unit from d).2.2.1) (fun d => by kernel_rfl) e_ref04_Do
theorem comp_ref05_Do : Compiled Try.prog cx 39 g_ref05_Do := compiled_of' (x := x_ref05_Do) Try.func39 (by kernel_rfl) (by kernel_rfl)
theorem ht_ref05_Do : ∀ f, ∀ K ∈ t_ref05_Do f, FnOk Try.prog f K := fun f K h => by cases h
theorem s_ref05_Do : FnOk Try.prog 39 N_ref05_Do := fn_ok mixed tabOk ht_ref05_Do comp_ref05_Do h_ref05_Do (T := fun d => T_ref05_Do (show W .i64 × W .u32 × W .u32 × Unit from d).1 (show W .i64 × W .u32 × W .u32 × Unit from d).2.1 (show W .i64 × W .u32 × W .u32 × Unit from d).2.2.1) (fun d => by kernel_rfl) e_ref05_Do
theorem comp_ref03_Cmov : Compiled Try.prog cx 40 g_ref03_Cmov := compiled_of' (x := x_ref03_Cmov) Try.func40 (by kernel_rfl) (by kernel_rfl)
theorem ht_ref03_Cmov : ∀ f, ∀ K ∈ t_ref03_Cmov f, FnOk Try.prog f K := fun f K h => by cases h
theorem s_ref03_Cmov : FnOk Try.prog 40 N_ref03_Cmov := fn_ok mixed tabOk ht_ref03_Cmov comp_ref03_Cmov h_ref03_Cmov (T := fun d => T_ref03_Cmov (show W .u32 × W .u32 × W .u32 × Unit from d).1 (show W .u32 × W .u32 × W .u32 × Unit from d).2.1 (show W .u32 × W .u32 × W .u32 × Unit from d).2.2.1) (fun d => by kernel_rfl) e_ref03_Cmov
theorem comp_ref03_bit : Compiled Try.prog cx 60 g_ref03_bit := compiled_of' (x := x_ref03_bit) Try.func60 (by kernel_rfl) (by kernel_rfl)
theorem ht_ref03_bit : ∀ f, ∀ K ∈ t_ref03_bit f, FnOk Try.prog f K := fun f K h => by cases h
theorem s_ref03_bit : FnOk Try.prog 60 N_ref03_bit := fn_ok mixed tabOk ht_ref03_bit comp_ref03_bit h_ref03_bit (T := fun d => T_ref03_bit (show W .u32 × W .i64 × Unit from d).1 (show W .u32 × W .i64 × Unit from d).2.1) (fun d => by kernel_rfl) e_ref03_bit
theorem comp_ref03_word : Compiled Try.prog cx 74 g_ref03_word := compiled_of' (x := x_ref03_word) Try.func74 (by kernel_rfl) (by kernel_rfl)
theorem ht_ref03_word : ∀ f, ∀ K ∈ t_ref03_word f, FnOk Try.prog f K := fun f K h => by cases h
theorem s_ref03_word : FnOk Try.prog 74 N_ref03_word := fn_ok mixed tabOk ht_ref03_word comp_ref03_word h_ref03_word (T := fun d => T_ref03_word (show Arr 32 (W .u32) × Unit from d).1) (fun d => by kernel_rfl) e_ref03_word
theorem comp_ref03_logic : Compiled Try.prog cx 58 g_ref03_logic := compiled_of' (x := x_ref03_logic) Try.func58 (by kernel_rfl) (by kernel_rfl)
theorem ht_ref03_logic : ∀ f, ∀ K ∈ t_ref03_logic f, FnOk Try.prog f K := by
  intro f K h
  unfold t_ref03_logic at h
  split at h
  · rcases List.mem_cons.1 h with rfl | h
    · exact s_ref03_bit
    · cases h
  · rcases List.mem_cons.1 h with rfl | h
    · exact s_ref03_word
    · cases h
  · cases h
theorem s_ref03_logic : FnOk Try.prog 58 N_ref03_logic := fn_ok mixed tabOk ht_ref03_logic comp_ref03_logic h_ref03_logic (T := fun d => T_ref03_logic (show W .u32 × W .u32 × W .u32 × W .u32 × Unit from d).1 (show W .u32 × W .u32 × W .u32 × W .u32 × Unit from d).2.1 (show W .u32 × W .u32 × W .u32 × W .u32 × Unit from d).2.2.1 (show W .u32 × W .u32 × W .u32 × W .u32 × Unit from d).2.2.2.1) (fun d => by kernel_rfl) e_ref03_logic
theorem comp_ref03_moved : Compiled Try.prog cx 59 g_ref03_moved := compiled_of' (x := x_ref03_moved) Try.func59 (by kernel_rfl) (by kernel_rfl)
theorem ht_ref03_moved : ∀ f, ∀ K ∈ t_ref03_moved f, FnOk Try.prog f K := by
  intro f K h
  unfold t_ref03_moved at h
  split at h
  · rcases List.mem_cons.1 h with rfl | h
    · exact s_ref03_bit
    · cases h
  · rcases List.mem_cons.1 h with rfl | h
    · exact s_ref03_word
    · cases h
  · cases h
theorem s_ref03_moved : FnOk Try.prog 59 N_ref03_moved := fn_ok mixed tabOk ht_ref03_moved comp_ref03_moved h_ref03_moved (T := fun d => T_ref03_moved (show W .u32 × W .i64 × W .u32 × Unit from d).1 (show W .u32 × W .i64 × W .u32 × Unit from d).2.1 (show W .u32 × W .i64 × W .u32 × Unit from d).2.2.1) (fun d => by kernel_rfl) e_ref03_moved
theorem comp_ref03_signed : Compiled Try.prog cx 42 g_ref03_signed := compiled_of' (x := x_ref03_signed) Try.func42 (by kernel_rfl) (by kernel_rfl)
theorem ht_ref03_signed : ∀ f, ∀ K ∈ t_ref03_signed f, FnOk Try.prog f K := fun f K h => by cases h
theorem s_ref03_signed : FnOk Try.prog 42 N_ref03_signed := fn_ok mixed tabOk ht_ref03_signed comp_ref03_signed h_ref03_signed (T := fun d => T_ref03_signed (show W .u32 × Unit from d).1) (fun d => by kernel_rfl) e_ref03_signed
theorem comp_ref03_one : Compiled Try.prog cx 61 g_ref03_one := compiled_of' (x := x_ref03_one) Try.func61 (by kernel_rfl) (by kernel_rfl)
theorem ht_ref03_one : ∀ f, ∀ K ∈ t_ref03_one f, FnOk Try.prog f K := fun f K h => by cases h
theorem s_ref03_one : FnOk Try.prog 61 N_ref03_one := fn_ok mixed tabOk ht_ref03_one comp_ref03_one h_ref03_one (T := fun d => T_ref03_one (show Bool × Unit from d).1) (fun d => by kernel_rfl) e_ref03_one
theorem comp_ref03_turned : Compiled Try.prog cx 62 g_ref03_turned := compiled_of' (x := x_ref03_turned) Try.func62 (by kernel_rfl) (by kernel_rfl)
theorem ht_ref03_turned : ∀ f, ∀ K ∈ t_ref03_turned f, FnOk Try.prog f K := by
  intro f K h
  unfold t_ref03_turned at h
  split at h
  · rcases List.mem_cons.1 h with rfl | h
    · exact s_ref03_bit
    · cases h
  · rcases List.mem_cons.1 h with rfl | h
    · exact s_ref03_word
    · cases h
  · cases h
theorem s_ref03_turned : FnOk Try.prog 62 N_ref03_turned := fn_ok mixed tabOk ht_ref03_turned comp_ref03_turned h_ref03_turned (T := fun d => T_ref03_turned (show W .u32 × W .i64 × Unit from d).1 (show W .u32 × W .i64 × Unit from d).2.1) (fun d => by kernel_rfl) e_ref03_turned
theorem comp_ref03_Clz : Compiled Try.prog cx 63 g_ref03_Clz := compiled_of' (x := x_ref03_Clz) Try.func63 (by kernel_rfl) (by kernel_rfl)
theorem ht_ref03_Clz : ∀ f, ∀ K ∈ t_ref03_Clz f, FnOk Try.prog f K := by
  intro f K h
  unfold t_ref03_Clz at h
  split at h
  · rcases List.mem_cons.1 h with rfl | h
    · exact s_ref03_bit
    · cases h
  · cases h
theorem s_ref03_Clz : FnOk Try.prog 63 N_ref03_Clz := fn_ok mixed tabOk ht_ref03_Clz comp_ref03_Clz h_ref03_Clz (T := fun d => T_ref03_Clz (show W .u32 × Unit from d).1) (fun d => by kernel_rfl) e_ref03_Clz
theorem comp_ref03_Pop : Compiled Try.prog cx 64 g_ref03_Pop := compiled_of' (x := x_ref03_Pop) Try.func64 (by kernel_rfl) (by kernel_rfl)
theorem ht_ref03_Pop : ∀ f, ∀ K ∈ t_ref03_Pop f, FnOk Try.prog f K := by
  intro f K h
  unfold t_ref03_Pop at h
  split at h
  · rcases List.mem_cons.1 h with rfl | h
    · exact s_ref03_bit
    · cases h
  · cases h
theorem s_ref03_Pop : FnOk Try.prog 64 N_ref03_Pop := fn_ok mixed tabOk ht_ref03_Pop comp_ref03_Pop h_ref03_Pop (T := fun d => T_ref03_Pop (show W .u32 × Unit from d).1) (fun d => by kernel_rfl) e_ref03_Pop
theorem comp_ref03_Rev : Compiled Try.prog cx 65 g_ref03_Rev := compiled_of' (x := x_ref03_Rev) Try.func65 (by kernel_rfl) (by kernel_rfl)
theorem ht_ref03_Rev : ∀ f, ∀ K ∈ t_ref03_Rev f, FnOk Try.prog f K := fun f K h => by cases h
theorem s_ref03_Rev : FnOk Try.prog 65 N_ref03_Rev := fn_ok mixed tabOk ht_ref03_Rev comp_ref03_Rev h_ref03_Rev (T := fun d => T_ref03_Rev (show W .u32 × Unit from d).1) (fun d => by kernel_rfl) e_ref03_Rev
theorem comp_ref03_Do : Compiled Try.prog cx 41 g_ref03_Do := compiled_of' (x := x_ref03_Do) Try.func41 (by kernel_rfl) (by kernel_rfl)
theorem ht_ref03_Do : ∀ f, ∀ K ∈ t_ref03_Do f, FnOk Try.prog f K := by
  intro f K h
  unfold t_ref03_Do at h
  split at h
  · rcases List.mem_cons.1 h with rfl | h
    · exact s_ref03_signed
    · cases h
  · rcases List.mem_cons.1 h with rfl | h
    · exact s_ref03_logic
    · cases h
  · rcases List.mem_cons.1 h with rfl | h
    · exact s_ref03_moved
    · cases h
  · rcases List.mem_cons.1 h with rfl | h
    · exact s_ref03_bit
    · cases h
  · rcases List.mem_cons.1 h with rfl | h
    · exact s_ref03_one
    · cases h
  · rcases List.mem_cons.1 h with rfl | h
    · exact s_ref03_turned
    · cases h
  · rcases List.mem_cons.1 h with rfl | h
    · exact s_ref03_Clz
    · cases h
  · rcases List.mem_cons.1 h with rfl | h
    · exact s_ref03_Pop
    · cases h
  · rcases List.mem_cons.1 h with rfl | h
    · exact s_ref03_Rev
    · cases h
  · cases h
theorem s_ref03_Do : FnOk Try.prog 41 N_ref03_Do := fn_ok mixed tabOk ht_ref03_Do comp_ref03_Do h_ref03_Do (T := fun d => T_ref03_Do (show W .i64 × W .u32 × W .u32 × Unit from d).1 (show W .i64 × W .u32 × W .u32 × Unit from d).2.1 (show W .i64 × W .u32 × W .u32 × Unit from d).2.2.1) (fun d => by kernel_rfl) e_ref03_Do
theorem comp_ref32_value : Compiled Try.prog cx 27 g_ref32_value := compiled_of' (x := x_ref32_value) Try.func27 (by kernel_rfl) (by kernel_rfl)
theorem ht_ref32_value : ∀ f, ∀ K ∈ t_ref32_value f, FnOk Try.prog f K := by
  intro f K h
  unfold t_ref32_value at h
  split at h
  · rcases List.mem_cons.1 h with rfl | h
    · exact s_ref04_Do
    · cases h
  · rcases List.mem_cons.1 h with rfl | h
    · exact s_ref05_Do
    · cases h
  · rcases List.mem_cons.1 h with rfl | h
    · exact s_ref03_Cmov
    · cases h
  · rcases List.mem_cons.1 h with rfl | h
    · exact s_ref03_Do
    · cases h
  · cases h
theorem s_ref32_value : FnOk Try.prog 27 N_ref32_value := fn_ok mixed tabOk ht_ref32_value comp_ref32_value h_ref32_value (T := fun d => T_ref32_value (show TInst × Arr 3 (W .u32) × Unit from d).1 (show TInst × Arr 3 (W .u32) × Unit from d).2.1) (fun d => by kernel_rfl) e_ref32_value
theorem comp_ref03_Taken : Compiled Try.prog cx 28 g_ref03_Taken := compiled_of' (x := x_ref03_Taken) Try.func28 (by kernel_rfl) (by kernel_rfl)
theorem ht_ref03_Taken : ∀ f, ∀ K ∈ t_ref03_Taken f, FnOk Try.prog f K := by
  intro f K h
  unfold t_ref03_Taken at h
  split at h
  · rcases List.mem_cons.1 h with rfl | h
    · exact s_ref03_signed
    · cases h
  · cases h
theorem s_ref03_Taken : FnOk Try.prog 28 N_ref03_Taken := fn_ok mixed tabOk ht_ref03_Taken comp_ref03_Taken h_ref03_Taken (T := fun d => T_ref03_Taken (show W .i64 × W .u32 × W .u32 × Unit from d).1 (show W .i64 × W .u32 × W .u32 × Unit from d).2.1 (show W .i64 × W .u32 × W .u32 × Unit from d).2.2.1) (fun d => by kernel_rfl) e_ref03_Taken
theorem comp_ref32_Do : Compiled Try.prog cx 8 g_ref32_Do := compiled_of' (x := x_ref32_Do) Try.func8 (by kernel_rfl) (by kernel_rfl)
theorem ht_ref32_Do : ∀ f, ∀ K ∈ t_ref32_Do f, FnOk Try.prog f K := by
  intro f K h
  unfold t_ref32_Do at h
  split at h
  · rcases List.mem_cons.1 h with rfl | h
    · exact s_ref32_value
    · cases h
  · rcases List.mem_cons.1 h with rfl | h
    · exact s_ref03_Taken
    · cases h
  · cases h
theorem s_ref32_Do : FnOk Try.prog 8 N_ref32_Do := fn_ok mixed tabOk ht_ref32_Do comp_ref32_Do h_ref32_Do (T := fun d => T_ref32_Do (show TUop × Arr 3 (W .u32) × Unit from d).1 (show TUop × Arr 3 (W .u32) × Unit from d).2.1) (fun d => by kernel_rfl) e_ref32_Do
theorem comp_exec_Wrong : Compiled Try.prog cx 9 g_exec_Wrong := compiled_of' (x := x_exec_Wrong) Try.func9 (by kernel_rfl) (by kernel_rfl)
theorem ht_exec_Wrong : ∀ f, ∀ K ∈ t_exec_Wrong f, FnOk Try.prog f K := by
  intro f K h
  unfold t_exec_Wrong at h
  split at h
  · rcases List.mem_cons.1 h with rfl | h
    · exact s_exec_behind
    · cases h
  · cases h
theorem s_exec_Wrong : FnOk Try.prog 9 N_exec_Wrong := fn_ok mixed tabOk ht_exec_Wrong comp_exec_Wrong h_exec_Wrong (T := fun d => T_exec_Wrong (show TUop × W .u32 × Unit from d).1 (show TUop × W .u32 × Unit from d).2.1) (fun d => by kernel_rfl) e_exec_Wrong
theorem comp_ref32_Wrong : Compiled Try.prog cx 10 g_ref32_Wrong := compiled_of' (x := x_ref32_Wrong) Try.func10 (by kernel_rfl) (by kernel_rfl)
theorem ht_ref32_Wrong : ∀ f, ∀ K ∈ t_ref32_Wrong f, FnOk Try.prog f K := fun f K h => by cases h
theorem s_ref32_Wrong : FnOk Try.prog 10 N_ref32_Wrong := fn_ok mixed tabOk ht_ref32_Wrong comp_ref32_Wrong h_ref32_Wrong (T := fun d => T_ref32_Wrong (show TUop × W .u32 × Unit from d).1 (show TUop × W .u32 × Unit from d).2.1) (fun d => by kernel_rfl) e_ref32_Wrong
theorem comp_bits_clamp : Compiled Try.prog cx 44 g_bits_clamp := compiled_of' (x := x_bits_clamp) Try.func44 (by kernel_rfl) (by kernel_rfl)
theorem ht_bits_clamp : ∀ f, ∀ K ∈ t_bits_clamp f, FnOk Try.prog f K := fun f K h => by cases h
theorem s_bits_clamp : FnOk Try.prog 44 N_bits_clamp := fn_ok mixed tabOk ht_bits_clamp comp_bits_clamp h_bits_clamp (T := fun d => T_bits_clamp (show W .i64 × W .i64 × W .i64 × Unit from d).1 (show W .i64 × W .i64 × W .i64 × Unit from d).2.1 (show W .i64 × W .i64 × W .i64 × Unit from d).2.2.1) (fun d => by kernel_rfl) e_bits_clamp
theorem comp_bits_Sext : Compiled Try.prog cx 32 g_bits_Sext := compiled_of' (x := x_bits_Sext) Try.func32 (by kernel_rfl) (by kernel_rfl)
theorem ht_bits_Sext : ∀ f, ∀ K ∈ t_bits_Sext f, FnOk Try.prog f K := by
  intro f K h
  unfold t_bits_Sext at h
  split at h
  · rcases List.mem_cons.1 h with rfl | h
    · exact s_bits_clamp
    · cases h
  · cases h
theorem s_bits_Sext : FnOk Try.prog 32 N_bits_Sext := fn_ok mixed tabOk ht_bits_Sext comp_bits_Sext h_bits_Sext (T := fun d => T_bits_Sext (show W .u32 × W .i64 × Unit from d).1 (show W .u32 × W .i64 × Unit from d).2.1) (fun d => by kernel_rfl) e_bits_Sext
theorem comp_bits_ones : Compiled Try.prog cx 43 g_bits_ones := compiled_of' (x := x_bits_ones) Try.func43 (by kernel_rfl) (by kernel_rfl)
theorem ht_bits_ones : ∀ f, ∀ K ∈ t_bits_ones f, FnOk Try.prog f K := fun f K h => by cases h
theorem s_bits_ones : FnOk Try.prog 43 N_bits_ones := fn_ok mixed tabOk ht_bits_ones comp_bits_ones h_bits_ones (T := fun d => T_bits_ones (show W .i64 × Unit from d).1) (fun d => by kernel_rfl) e_bits_ones
theorem comp_bits_Zext : Compiled Try.prog cx 30 g_bits_Zext := compiled_of' (x := x_bits_Zext) Try.func30 (by kernel_rfl) (by kernel_rfl)
theorem ht_bits_Zext : ∀ f, ∀ K ∈ t_bits_Zext f, FnOk Try.prog f K := by
  intro f K h
  unfold t_bits_Zext at h
  split at h
  · rcases List.mem_cons.1 h with rfl | h
    · exact s_bits_ones
    · cases h
  · rcases List.mem_cons.1 h with rfl | h
    · exact s_bits_clamp
    · cases h
  · cases h
theorem s_bits_Zext : FnOk Try.prog 30 N_bits_Zext := fn_ok mixed tabOk ht_bits_Zext comp_bits_Zext h_bits_Zext (T := fun d => T_bits_Zext (show W .u32 × W .i64 × Unit from d).1 (show W .u32 × W .i64 × Unit from d).2.1) (fun d => by kernel_rfl) e_bits_Zext
theorem comp_exec_Ext : Compiled Try.prog cx 17 g_exec_Ext := compiled_of' (x := x_exec_Ext) Try.func17 (by kernel_rfl) (by kernel_rfl)
theorem ht_exec_Ext : ∀ f, ∀ K ∈ t_exec_Ext f, FnOk Try.prog f K := by
  intro f K h
  unfold t_exec_Ext at h
  split at h
  · rcases List.mem_cons.1 h with rfl | h
    · exact s_bits_Zext
    · cases h
  · rcases List.mem_cons.1 h with rfl | h
    · exact s_bits_Sext
    · cases h
  · cases h
theorem s_exec_Ext : FnOk Try.prog 17 N_exec_Ext := fn_ok mixed tabOk ht_exec_Ext comp_exec_Ext h_exec_Ext (T := fun d => T_exec_Ext (show W .i64 × W .u32 × Unit from d).1 (show W .i64 × W .u32 × Unit from d).2.1) (fun d => by kernel_rfl) e_exec_Ext
theorem comp_law32_awake : Compiled Try.prog cx 11 g_law32_awake := compiled_of' (x := x_law32_awake) Try.func11 (by kernel_rfl) (by kernel_rfl)
theorem ht_law32_awake : ∀ f, ∀ K ∈ t_law32_awake f, FnOk Try.prog f K := by
  intro f K h
  unfold t_law32_awake at h
  split at h
  · rcases List.mem_cons.1 h with rfl | h
    · exact s_exec_Do
    · cases h
  · rcases List.mem_cons.1 h with rfl | h
    · exact s_exec_Wrong
    · cases h
  · rcases List.mem_cons.1 h with rfl | h
    · exact s_exec_Ext
    · cases h
  · cases h
theorem s_law32_awake : FnOk Try.prog 11 N_law32_awake := fn_ok mixed tabOk ht_law32_awake comp_law32_awake h_law32_awake (T := fun d => T_law32_awake) (fun d => by kernel_rfl) e_law32_awake
theorem comp_law32_ExecDoes : Compiled Try.prog cx 3 g_law32_ExecDoes := compiled_of' (x := x_law32_ExecDoes) Try.func3 (by kernel_rfl) (by kernel_rfl)
theorem ht_law32_ExecDoes : ∀ f, ∀ K ∈ t_law32_ExecDoes f, FnOk Try.prog f K := by
  intro f K h
  unfold t_law32_ExecDoes at h
  split at h
  · rcases List.mem_cons.1 h with rfl | h
    · exact s_exec_Do
    · cases h
  · rcases List.mem_cons.1 h with rfl | h
    · exact s_ref32_Do
    · cases h
  · rcases List.mem_cons.1 h with rfl | h
    · exact s_exec_Wrong
    · cases h
  · rcases List.mem_cons.1 h with rfl | h
    · exact s_ref32_Wrong
    · cases h
  · rcases List.mem_cons.1 h with rfl | h
    · exact s_law32_awake
    · cases h
  · cases h
theorem s_law32_ExecDoes : FnOk Try.prog 3 N_law32_ExecDoes := fn_ok mixed tabOk ht_law32_ExecDoes comp_law32_ExecDoes h_law32_ExecDoes (T := fun d => T_law32_ExecDoes (show TUop × Arr 3 (W .u32) × W .u32 × Unit from d).1 (show TUop × Arr 3 (W .u32) × W .u32 × Unit from d).2.1 (show TUop × Arr 3 (W .u32) × W .u32 × Unit from d).2.2.1) (fun d => by kernel_rfl) e_law32_ExecDoes
theorem comp_pred_Next : Compiled Try.prog cx 12 g_pred_Next := compiled_of' (x := x_pred_Next) Try.func12 (by kernel_rfl) (by kernel_rfl)
theorem ht_pred_Next : ∀ f, ∀ K ∈ t_pred_Next f, FnOk Try.prog f K := fun f K h => by cases h
theorem s_pred_Next : FnOk Try.prog 12 N_pred_Next := fn_ok mixed tabOk ht_pred_Next comp_pred_Next h_pred_Next (T := fun d => T_pred_Next (show TSlot × Unit from d).1) (fun d => by kernel_rfl) e_pred_Next
theorem comp_law32_ExecGuess : Compiled Try.prog cx 4 g_law32_ExecGuess := compiled_of' (x := x_law32_ExecGuess) Try.func4 (by kernel_rfl) (by kernel_rfl)
theorem ht_law32_ExecGuess : ∀ f, ∀ K ∈ t_law32_ExecGuess f, FnOk Try.prog f K := by
  intro f K h
  unfold t_law32_ExecGuess at h
  split at h
  · rcases List.mem_cons.1 h with rfl | h
    · exact s_exec_Wrong
    · cases h
  · rcases List.mem_cons.1 h with rfl | h
    · exact s_law32_awake
    · cases h
  · rcases List.mem_cons.1 h with rfl | h
    · exact s_pred_Next
    · cases h
  · cases h
theorem s_law32_ExecGuess : FnOk Try.prog 4 N_law32_ExecGuess := fn_ok mixed tabOk ht_law32_ExecGuess comp_law32_ExecGuess h_law32_ExecGuess (T := fun d => T_law32_ExecGuess (show TUop × W .u32 × Unit from d).1 (show TUop × W .u32 × Unit from d).2.1) (fun d => by kernel_rfl) e_law32_ExecGuess
theorem comp_crack_Size : Compiled Try.prog cx 19 g_crack_Size := compiled_of' (x := x_crack_Size) Try.func19 (by kernel_rfl) (by kernel_rfl)
theorem ht_crack_Size : ∀ f, ∀ K ∈ t_crack_Size f, FnOk Try.prog f K := fun f K h => by cases h
theorem s_crack_Size : FnOk Try.prog 19 N_crack_Size := fn_ok mixed tabOk ht_crack_Size comp_crack_Size h_crack_Size (T := fun d => T_crack_Size (show W .i64 × Unit from d).1) (fun d => by kernel_rfl) e_crack_Size
theorem comp_exec_Addr : Compiled Try.prog cx 13 g_exec_Addr := compiled_of' (x := x_exec_Addr) Try.func13 (by kernel_rfl) (by kernel_rfl)
theorem ht_exec_Addr : ∀ f, ∀ K ∈ t_exec_Addr f, FnOk Try.prog f K := by
  intro f K h
  unfold t_exec_Addr at h
  split at h
  · rcases List.mem_cons.1 h with rfl | h
    · exact s_crack_Size
    · cases h
  · rcases List.mem_cons.1 h with rfl | h
    · exact s_exec_between
    · cases h
  · cases h
theorem s_exec_Addr : FnOk Try.prog 13 N_exec_Addr := fn_ok mixed tabOk ht_exec_Addr comp_exec_Addr h_exec_Addr (T := fun d => T_exec_Addr (show TUop × Arr 3 (W .u32) × Unit from d).1 (show TUop × Arr 3 (W .u32) × Unit from d).2.1) (fun d => by kernel_rfl) e_exec_Addr
theorem comp_ref24_Size : Compiled Try.prog cx 29 g_ref24_Size := compiled_of' (x := x_ref24_Size) Try.func29 (by kernel_rfl) (by kernel_rfl)
theorem ht_ref24_Size : ∀ f, ∀ K ∈ t_ref24_Size f, FnOk Try.prog f K := fun f K h => by cases h
theorem s_ref24_Size : FnOk Try.prog 29 N_ref24_Size := fn_ok mixed tabOk ht_ref24_Size comp_ref24_Size h_ref24_Size (T := fun d => T_ref24_Size (show W .i64 × Unit from d).1) (fun d => by kernel_rfl) e_ref24_Size
theorem comp_ref32_Addr : Compiled Try.prog cx 14 g_ref32_Addr := compiled_of' (x := x_ref32_Addr) Try.func14 (by kernel_rfl) (by kernel_rfl)
theorem ht_ref32_Addr : ∀ f, ∀ K ∈ t_ref32_Addr f, FnOk Try.prog f K := by
  intro f K h
  unfold t_ref32_Addr at h
  split at h
  · rcases List.mem_cons.1 h with rfl | h
    · exact s_ref24_Size
    · cases h
  · cases h
theorem s_ref32_Addr : FnOk Try.prog 14 N_ref32_Addr := fn_ok mixed tabOk ht_ref32_Addr comp_ref32_Addr h_ref32_Addr (T := fun d => T_ref32_Addr (show TUop × Arr 3 (W .u32) × Unit from d).1 (show TUop × Arr 3 (W .u32) × Unit from d).2.1) (fun d => by kernel_rfl) e_ref32_Addr
theorem comp_exec_Data : Compiled Try.prog cx 15 g_exec_Data := compiled_of' (x := x_exec_Data) Try.func15 (by kernel_rfl) (by kernel_rfl)
theorem ht_exec_Data : ∀ f, ∀ K ∈ t_exec_Data f, FnOk Try.prog f K := by
  intro f K h
  unfold t_exec_Data at h
  split at h
  · rcases List.mem_cons.1 h with rfl | h
    · exact s_crack_Size
    · cases h
  · rcases List.mem_cons.1 h with rfl | h
    · exact s_exec_between
    · cases h
  · rcases List.mem_cons.1 h with rfl | h
    · exact s_bits_Zext
    · cases h
  · cases h
theorem s_exec_Data : FnOk Try.prog 15 N_exec_Data := fn_ok mixed tabOk ht_exec_Data comp_exec_Data h_exec_Data (T := fun d => T_exec_Data (show TUop × Arr 3 (W .u32) × Unit from d).1 (show TUop × Arr 3 (W .u32) × Unit from d).2.1) (fun d => by kernel_rfl) e_exec_Data
theorem comp_ref01_brought : Compiled Try.prog cx 45 g_ref01_brought := compiled_of' (x := x_ref01_brought) Try.func45 (by kernel_rfl) (by kernel_rfl)
theorem ht_ref01_brought : ∀ f, ∀ K ∈ t_ref01_brought f, FnOk Try.prog f K := fun f K h => by cases h
theorem s_ref01_brought : FnOk Try.prog 45 N_ref01_brought := fn_ok mixed tabOk ht_ref01_brought comp_ref01_brought h_ref01_brought (T := fun d => T_ref01_brought (show W .i64 × W .i64 × W .i64 × Unit from d).1 (show W .i64 × W .i64 × W .i64 × Unit from d).2.1 (show W .i64 × W .i64 × W .i64 × Unit from d).2.2.1) (fun d => by kernel_rfl) e_ref01_brought
theorem comp_ref01_power : Compiled Try.prog cx 47 g_ref01_power := compiled_of' (x := x_ref01_power) Try.func47 (by kernel_rfl) (by kernel_rfl)
theorem ht_ref01_power : ∀ f, ∀ K ∈ t_ref01_power f, FnOk Try.prog f K := fun f K h => by cases h
theorem s_ref01_power : FnOk Try.prog 47 N_ref01_power := fn_ok mixed tabOk ht_ref01_power comp_ref01_power h_ref01_power (T := fun d => T_ref01_power (show W .i64 × Unit from d).1) (fun d => by kernel_rfl) e_ref01_power
theorem comp_ref01_bit : Compiled Try.prog cx 46 g_ref01_bit := compiled_of' (x := x_ref01_bit) Try.func46 (by kernel_rfl) (by kernel_rfl)
theorem ht_ref01_bit : ∀ f, ∀ K ∈ t_ref01_bit f, FnOk Try.prog f K := by
  intro f K h
  unfold t_ref01_bit at h
  split at h
  · rcases List.mem_cons.1 h with rfl | h
    · exact s_ref01_power
    · cases h
  · cases h
theorem s_ref01_bit : FnOk Try.prog 46 N_ref01_bit := fn_ok mixed tabOk ht_ref01_bit comp_ref01_bit h_ref01_bit (T := fun d => T_ref01_bit (show W .u32 × W .i64 × Unit from d).1 (show W .u32 × W .i64 × Unit from d).2.1) (fun d => by kernel_rfl) e_ref01_bit
theorem comp_ref01_Zext : Compiled Try.prog cx 31 g_ref01_Zext := compiled_of' (x := x_ref01_Zext) Try.func31 (by kernel_rfl) (by kernel_rfl)
theorem ht_ref01_Zext : ∀ f, ∀ K ∈ t_ref01_Zext f, FnOk Try.prog f K := by
  intro f K h
  unfold t_ref01_Zext at h
  split at h
  · rcases List.mem_cons.1 h with rfl | h
    · exact s_ref01_brought
    · cases h
  · rcases List.mem_cons.1 h with rfl | h
    · exact s_ref01_bit
    · cases h
  · rcases List.mem_cons.1 h with rfl | h
    · exact s_ref01_power
    · cases h
  · cases h
theorem s_ref01_Zext : FnOk Try.prog 31 N_ref01_Zext := fn_ok mixed tabOk ht_ref01_Zext comp_ref01_Zext h_ref01_Zext (T := fun d => T_ref01_Zext (show W .u32 × W .i64 × Unit from d).1 (show W .u32 × W .i64 × Unit from d).2.1) (fun d => by kernel_rfl) e_ref01_Zext
theorem comp_ref32_Data : Compiled Try.prog cx 16 g_ref32_Data := compiled_of' (x := x_ref32_Data) Try.func16 (by kernel_rfl) (by kernel_rfl)
theorem ht_ref32_Data : ∀ f, ∀ K ∈ t_ref32_Data f, FnOk Try.prog f K := by
  intro f K h
  unfold t_ref32_Data at h
  split at h
  · rcases List.mem_cons.1 h with rfl | h
    · exact s_ref24_Size
    · cases h
  · rcases List.mem_cons.1 h with rfl | h
    · exact s_ref01_Zext
    · cases h
  · cases h
theorem s_ref32_Data : FnOk Try.prog 16 N_ref32_Data := fn_ok mixed tabOk ht_ref32_Data comp_ref32_Data h_ref32_Data (T := fun d => T_ref32_Data (show TUop × Arr 3 (W .u32) × Unit from d).1 (show TUop × Arr 3 (W .u32) × Unit from d).2.1) (fun d => by kernel_rfl) e_ref32_Data
theorem comp_ref01_Sext : Compiled Try.prog cx 33 g_ref01_Sext := compiled_of' (x := x_ref01_Sext) Try.func33 (by kernel_rfl) (by kernel_rfl)
theorem ht_ref01_Sext : ∀ f, ∀ K ∈ t_ref01_Sext f, FnOk Try.prog f K := by
  intro f K h
  unfold t_ref01_Sext at h
  split at h
  · rcases List.mem_cons.1 h with rfl | h
    · exact s_ref01_Zext
    · cases h
  · rcases List.mem_cons.1 h with rfl | h
    · exact s_ref01_brought
    · cases h
  · rcases List.mem_cons.1 h with rfl | h
    · exact s_ref01_bit
    · cases h
  · rcases List.mem_cons.1 h with rfl | h
    · exact s_ref01_power
    · cases h
  · cases h
theorem s_ref01_Sext : FnOk Try.prog 33 N_ref01_Sext := fn_ok mixed tabOk ht_ref01_Sext comp_ref01_Sext h_ref01_Sext (T := fun d => T_ref01_Sext (show W .u32 × W .i64 × Unit from d).1 (show W .u32 × W .i64 × Unit from d).2.1) (fun d => by kernel_rfl) e_ref01_Sext
theorem comp_ref32_Ext : Compiled Try.prog cx 18 g_ref32_Ext := compiled_of' (x := x_ref32_Ext) Try.func18 (by kernel_rfl) (by kernel_rfl)
theorem ht_ref32_Ext : ∀ f, ∀ K ∈ t_ref32_Ext f, FnOk Try.prog f K := by
  intro f K h
  unfold t_ref32_Ext at h
  split at h
  · rcases List.mem_cons.1 h with rfl | h
    · exact s_ref01_Zext
    · cases h
  · rcases List.mem_cons.1 h with rfl | h
    · exact s_ref01_Sext
    · cases h
  · cases h
theorem s_ref32_Ext : FnOk Try.prog 18 N_ref32_Ext := fn_ok mixed tabOk ht_ref32_Ext comp_ref32_Ext h_ref32_Ext (T := fun d => T_ref32_Ext (show W .i64 × W .u32 × Unit from d).1 (show W .i64 × W .u32 × Unit from d).2.1) (fun d => by kernel_rfl) e_ref32_Ext
theorem comp_law32_ExecMoves : Compiled Try.prog cx 5 g_law32_ExecMoves := compiled_of' (x := x_law32_ExecMoves) Try.func5 (by kernel_rfl) (by kernel_rfl)
theorem ht_law32_ExecMoves : ∀ f, ∀ K ∈ t_law32_ExecMoves f, FnOk Try.prog f K := by
  intro f K h
  unfold t_law32_ExecMoves at h
  split at h
  · rcases List.mem_cons.1 h with rfl | h
    · exact s_law32_awake
    · cases h
  · rcases List.mem_cons.1 h with rfl | h
    · exact s_exec_Addr
    · cases h
  · rcases List.mem_cons.1 h with rfl | h
    · exact s_ref32_Addr
    · cases h
  · rcases List.mem_cons.1 h with rfl | h
    · exact s_exec_Data
    · cases h
  · rcases List.mem_cons.1 h with rfl | h
    · exact s_ref32_Data
    · cases h
  · rcases List.mem_cons.1 h with rfl | h
    · exact s_exec_Ext
    · cases h
  · rcases List.mem_cons.1 h with rfl | h
    · exact s_ref32_Ext
    · cases h
  · cases h
theorem s_law32_ExecMoves : FnOk Try.prog 5 N_law32_ExecMoves := fn_ok mixed tabOk ht_law32_ExecMoves comp_law32_ExecMoves h_law32_ExecMoves (T := fun d => T_law32_ExecMoves (show TUop × Arr 3 (W .u32) × W .u32 × Unit from d).1 (show TUop × Arr 3 (W .u32) × W .u32 × Unit from d).2.1 (show TUop × Arr 3 (W .u32) × W .u32 × Unit from d).2.2.1) (fun d => by kernel_rfl) e_law32_ExecMoves
theorem comp_crack_Serial : Compiled Try.prog cx 34 g_crack_Serial := compiled_of' (x := x_crack_Serial) Try.func34 (by kernel_rfl) (by kernel_rfl)
theorem ht_crack_Serial : ∀ f, ∀ K ∈ t_crack_Serial f, FnOk Try.prog f K := fun f K h => by cases h
theorem s_crack_Serial : FnOk Try.prog 34 N_crack_Serial := fn_ok mixed tabOk ht_crack_Serial comp_crack_Serial h_crack_Serial (T := fun d => T_crack_Serial (show W .i64 × Unit from d).1) (fun d => by kernel_rfl) e_crack_Serial
theorem comp_crack_Unit : Compiled Try.prog cx 20 g_crack_Unit := compiled_of' (x := x_crack_Unit) Try.func20 (by kernel_rfl) (by kernel_rfl)
theorem ht_crack_Unit : ∀ f, ∀ K ∈ t_crack_Unit f, FnOk Try.prog f K := by
  intro f K h
  unfold t_crack_Unit at h
  split at h
  · rcases List.mem_cons.1 h with rfl | h
    · exact s_crack_Serial
    · cases h
  · cases h
theorem s_crack_Unit : FnOk Try.prog 20 N_crack_Unit := fn_ok mixed tabOk ht_crack_Unit comp_crack_Unit h_crack_Unit (T := fun d => T_crack_Unit (show W .i64 × Unit from d).1) (fun d => by kernel_rfl) e_crack_Unit
theorem comp_law32_ExecLoads : Compiled Try.prog cx 6 g_law32_ExecLoads := compiled_of' (x := x_law32_ExecLoads) Try.func6 (by kernel_rfl) (by kernel_rfl)
theorem ht_law32_ExecLoads : ∀ f, ∀ K ∈ t_law32_ExecLoads f, FnOk Try.prog f K := by
  intro f K h
  unfold t_law32_ExecLoads at h
  split at h
  · rcases List.mem_cons.1 h with rfl | h
    · exact s_law32_awake
    · cases h
  · rcases List.mem_cons.1 h with rfl | h
    · exact s_exec_Ext
    · cases h
  · rcases List.mem_cons.1 h with rfl | h
    · exact s_crack_Size
    · cases h
  · rcases List.mem_cons.1 h with rfl | h
    · exact s_crack_Unit
    · cases h
  · cases h
theorem s_law32_ExecLoads : FnOk Try.prog 6 N_law32_ExecLoads := fn_ok mixed tabOk ht_law32_ExecLoads comp_law32_ExecLoads h_law32_ExecLoads (T := fun d => T_law32_ExecLoads (show W .i64 × W .u32 × W .u32 × Unit from d).1 (show W .i64 × W .u32 × W .u32 × Unit from d).2.1 (show W .i64 × W .u32 × W .u32 × Unit from d).2.2.1) (fun d => by kernel_rfl) e_law32_ExecLoads
end Go.Proofs.Ytcinobbeapgklaa

/- Facts on the loaded program's types, by program (gen.py); no condition. -/
import Derived.Test.YtealcoghiaeiiaaVS
import Derived.Test.YtealcoghiaeiiaaVLib
import Derived.KernelRfl
set_option linter.unusedVariables false
namespace Go.Proofs.Ytealcoghiaeiiaa.VG
open Go.VB Go.Proofs

abbrev ty_int64 : TypeId := 2
theorem one_int64 : One Try.prog 2 := ⟨fun w => by kernel_rfl, fun w => by kernel_rfl⟩
abbrev zero_int64 : List Value := [.int .i64 0]
theorem new_int64 : ∀ w, (Instr.alloc 2 true (.tuple #[])).run Try.prog w = .ok (.pointer (some ⟨w.heap.size, 0, none⟩)) (w.alloc (.cells (zero_int64).toArray 2)) := fun w => by kernel_rfl
theorem zv_int64 : ∀ w, (zeroValue 2).run Try.prog w = .ok (.int .i64 0) w := fun w => by kernel_rfl
abbrev ty_int : TypeId := 3
theorem one_int : One Try.prog 3 := ⟨fun w => by kernel_rfl, fun w => by kernel_rfl⟩
abbrev zero_int : List Value := [.int .i64 0]
theorem new_int : ∀ w, (Instr.alloc 3 true (.tuple #[])).run Try.prog w = .ok (.pointer (some ⟨w.heap.size, 0, none⟩)) (w.alloc (.cells (zero_int).toArray 3)) := fun w => by kernel_rfl
theorem zv_int : ∀ w, (zeroValue 3).run Try.prog w = .ok (.int .i64 0) w := fun w => by kernel_rfl
abbrev ty_bool : TypeId := 4
theorem one_bool : One Try.prog 4 := ⟨fun w => by kernel_rfl, fun w => by kernel_rfl⟩
abbrev zero_bool : List Value := [.bool false]
theorem new_bool : ∀ w, (Instr.alloc 4 true (.tuple #[])).run Try.prog w = .ok (.pointer (some ⟨w.heap.size, 0, none⟩)) (w.alloc (.cells (zero_bool).toArray 4)) := fun w => by kernel_rfl
theorem zv_bool : ∀ w, (zeroValue 4).run Try.prog w = .ok (.bool false) w := fun w => by kernel_rfl
abbrev ty_uint8 : TypeId := 5
theorem one_uint8 : One Try.prog 5 := ⟨fun w => by kernel_rfl, fun w => by kernel_rfl⟩
abbrev zero_uint8 : List Value := [.int .u8 0]
theorem new_uint8 : ∀ w, (Instr.alloc 5 true (.tuple #[])).run Try.prog w = .ok (.pointer (some ⟨w.heap.size, 0, none⟩)) (w.alloc (.cells (zero_uint8).toArray 5)) := fun w => by kernel_rfl
theorem zv_uint8 : ∀ w, (zeroValue 5).run Try.prog w = .ok (.int .u8 0) w := fun w => by kernel_rfl
abbrev ty_string : TypeId := 9
theorem one_string : One Try.prog 9 := ⟨fun w => by kernel_rfl, fun w => by kernel_rfl⟩
abbrev zero_string : List Value := [.string ⟨#[]⟩]
theorem new_string : ∀ w, (Instr.alloc 9 true (.tuple #[])).run Try.prog w = .ok (.pointer (some ⟨w.heap.size, 0, none⟩)) (w.alloc (.cells (zero_string).toArray 9)) := fun w => by kernel_rfl
theorem zv_string : ∀ w, (zeroValue 9).run Try.prog w = .ok (.string ⟨#[]⟩) w := fun w => by kernel_rfl
abbrev ty_uintptr : TypeId := 12
theorem one_uintptr : One Try.prog 12 := ⟨fun w => by kernel_rfl, fun w => by kernel_rfl⟩
abbrev zero_uintptr : List Value := [.int .u64 0]
theorem new_uintptr : ∀ w, (Instr.alloc 12 true (.tuple #[])).run Try.prog w = .ok (.pointer (some ⟨w.heap.size, 0, none⟩)) (w.alloc (.cells (zero_uintptr).toArray 12)) := fun w => by kernel_rfl
theorem zv_uintptr : ∀ w, (zeroValue 12).run Try.prog w = .ok (.int .u64 0) w := fun w => by kernel_rfl
abbrev ty_struct_msg_string_addr_uintptr : TypeId := 13
theorem agg_struct_msg_string_addr_uintptr : Agg Try.prog 13 2 := ⟨fun w => by kernel_rfl, fun w => by kernel_rfl, by kernel_rfl⟩
theorem fld_struct_msg_string_addr_uintptr_msg : ∀ p w, (Instr.fieldAt 13 (.pointer (some p)) 0).run Try.prog w = .ok (.pointer (some (p.add 0))) w := fun _ _ => by kernel_rfl
theorem fld_struct_msg_string_addr_uintptr_addr : ∀ p w, (Instr.fieldAt 13 (.pointer (some p)) 1).run Try.prog w = .ok (.pointer (some (p.add 1))) w := fun _ _ => by kernel_rfl
abbrev zero_struct_msg_string_addr_uintptr : List Value := [.string ⟨#[]⟩, .int .u64 0]
theorem new_struct_msg_string_addr_uintptr : ∀ w, (Instr.alloc 13 true (.tuple #[])).run Try.prog w = .ok (.pointer (some ⟨w.heap.size, 0, none⟩)) (w.alloc (.cells (zero_struct_msg_string_addr_uintptr).toArray 13)) := fun w => by kernel_rfl
theorem zv_struct_msg_string_addr_uintptr : ∀ w, (zeroValue 13).run Try.prog w = .ok (.agg (zero_struct_msg_string_addr_uintptr).toArray) w := fun w => by kernel_rfl
abbrev ty_interface : TypeId := 20
theorem one_interface : One Try.prog 20 := ⟨fun w => by kernel_rfl, fun w => by kernel_rfl⟩
abbrev zero_interface : List Value := [.nilIface]
theorem new_interface : ∀ w, (Instr.alloc 20 true (.tuple #[])).run Try.prog w = .ok (.pointer (some ⟨w.heap.size, 0, none⟩)) (w.alloc (.cells (zero_interface).toArray 20)) := fun w => by kernel_rfl
theorem zv_interface : ∀ w, (zeroValue 20).run Try.prog w = .ok (.nilIface) w := fun w => by kernel_rfl
abbrev ty_int32 : TypeId := 21
theorem one_int32 : One Try.prog 21 := ⟨fun w => by kernel_rfl, fun w => by kernel_rfl⟩
abbrev zero_int32 : List Value := [.int .i32 0]
theorem new_int32 : ∀ w, (Instr.alloc 21 true (.tuple #[])).run Try.prog w = .ok (.pointer (some ⟨w.heap.size, 0, none⟩)) (w.alloc (.cells (zero_int32).toArray 21)) := fun w => by kernel_rfl
theorem zv_int32 : ∀ w, (zeroValue 21).run Try.prog w = .ok (.int .i32 0) w := fun w => by kernel_rfl
abbrev ty_L_api_Version : TypeId := 22
theorem one_L_api_Version : One Try.prog 22 := ⟨fun w => by kernel_rfl, fun w => by kernel_rfl⟩
abbrev zero_L_api_Version : List Value := [.slice none 0 0]
theorem new_L_api_Version : ∀ w, (Instr.alloc 22 true (.tuple #[])).run Try.prog w = .ok (.pointer (some ⟨w.heap.size, 0, none⟩)) (w.alloc (.cells (zero_L_api_Version).toArray 22)) := fun w => by kernel_rfl
theorem zv_L_api_Version : ∀ w, (zeroValue 22).run Try.prog w = .ok (.slice none 0 0) w := fun w => by kernel_rfl
theorem und_L_api_Version : Try.prog.underlying 22 = some (.slice 37) := Try.underlying22
theorem esz_L_api_Version : ∀ w, (sizeOf 37).run Try.prog w = .ok 4 w := fun w => by kernel_rfl
theorem bs0_L_api_Version : ∀ w, (Instr.buildSlice 22 0 [].toArray).run Try.prog w = .ok (Sl.v ⟨some ⟨w.heap.size, 0, none⟩, 0, 0⟩) (w.alloc (.cells #[] 37)) := fun w => by kernel_rfl
theorem bs1_L_api_Version (x : T_api_Version) : ∀ w, (Instr.buildSlice 22 1 [(0, (T_api_Version.v x))].toArray).run Try.prog w = .ok (Sl.v ⟨some ⟨w.heap.size, 0, none⟩, 1, 1⟩) (w.alloc (.cells (T_api_Version.cells x).toArray 37)) := fun w => by kernel_rfl
theorem einf_L_api_Version : (Try.prog.info? 37).map (fun i => (i.zero, i.size, i.bytes)) = some (some (.agg ([.string ⟨#[]⟩, .int .u64 0, .string ⟨#[]⟩, .bool false]).toArray), 4, 48) := by kernel_rfl
abbrev ty_uint64 : TypeId := 23
theorem one_uint64 : One Try.prog 23 := ⟨fun w => by kernel_rfl, fun w => by kernel_rfl⟩
abbrev zero_uint64 : List Value := [.int .u64 0]
theorem new_uint64 : ∀ w, (Instr.alloc 23 true (.tuple #[])).run Try.prog w = .ok (.pointer (some ⟨w.heap.size, 0, none⟩)) (w.alloc (.cells (zero_uint64).toArray 23)) := fun w => by kernel_rfl
theorem zv_uint64 : ∀ w, (zeroValue 23).run Try.prog w = .ok (.int .u64 0) w := fun w => by kernel_rfl
abbrev ty_struct_List_L_api_Version_Low_uint64 : TypeId := 24
theorem agg_struct_List_L_api_Version_Low_uint64 : Agg Try.prog 24 2 := ⟨fun w => by kernel_rfl, fun w => by kernel_rfl, by kernel_rfl⟩
theorem fld_struct_List_L_api_Version_Low_uint64_List : ∀ p w, (Instr.fieldAt 24 (.pointer (some p)) 0).run Try.prog w = .ok (.pointer (some (p.add 0))) w := fun _ _ => by kernel_rfl
theorem fld_struct_List_L_api_Version_Low_uint64_Low : ∀ p w, (Instr.fieldAt 24 (.pointer (some p)) 1).run Try.prog w = .ok (.pointer (some (p.add 1))) w := fun _ _ => by kernel_rfl
abbrev zero_struct_List_L_api_Version_Low_uint64 : List Value := [.slice none 0 0, .int .u64 0]
theorem new_struct_List_L_api_Version_Low_uint64 : ∀ w, (Instr.alloc 24 true (.tuple #[])).run Try.prog w = .ok (.pointer (some ⟨w.heap.size, 0, none⟩)) (w.alloc (.cells (zero_struct_List_L_api_Version_Low_uint64).toArray 24)) := fun w => by kernel_rfl
theorem zv_struct_List_L_api_Version_Low_uint64 : ∀ w, (zeroValue 24).run Try.prog w = .ok (.agg (zero_struct_List_L_api_Version_Low_uint64).toArray) w := fun w => by kernel_rfl
abbrev ty_api_Versions : TypeId := 25
theorem agg_api_Versions : Agg Try.prog 25 2 := ⟨fun w => by kernel_rfl, fun w => by kernel_rfl, by kernel_rfl⟩
theorem fld_api_Versions_List : ∀ p w, (Instr.fieldAt 25 (.pointer (some p)) 0).run Try.prog w = .ok (.pointer (some (p.add 0))) w := fun _ _ => by kernel_rfl
theorem fld_api_Versions_Low : ∀ p w, (Instr.fieldAt 25 (.pointer (some p)) 1).run Try.prog w = .ok (.pointer (some (p.add 1))) w := fun _ _ => by kernel_rfl
abbrev zero_api_Versions : List Value := [.slice none 0 0, .int .u64 0]
theorem new_api_Versions : ∀ w, (Instr.alloc 25 true (.tuple #[])).run Try.prog w = .ok (.pointer (some ⟨w.heap.size, 0, none⟩)) (w.alloc (.cells (zero_api_Versions).toArray 25)) := fun w => by kernel_rfl
theorem zv_api_Versions : ∀ w, (zeroValue 25).run Try.prog w = .ok (.agg (zero_api_Versions).toArray) w := fun w => by kernel_rfl
abbrev ty_L_api_Write : TypeId := 26
theorem one_L_api_Write : One Try.prog 26 := ⟨fun w => by kernel_rfl, fun w => by kernel_rfl⟩
abbrev zero_L_api_Write : List Value := [.slice none 0 0]
theorem new_L_api_Write : ∀ w, (Instr.alloc 26 true (.tuple #[])).run Try.prog w = .ok (.pointer (some ⟨w.heap.size, 0, none⟩)) (w.alloc (.cells (zero_L_api_Write).toArray 26)) := fun w => by kernel_rfl
theorem zv_L_api_Write : ∀ w, (zeroValue 26).run Try.prog w = .ok (.slice none 0 0) w := fun w => by kernel_rfl
theorem und_L_api_Write : Try.prog.underlying 26 = some (.slice 52) := Try.underlying26
theorem esz_L_api_Write : ∀ w, (sizeOf 52).run Try.prog w = .ok 3 w := fun w => by kernel_rfl
theorem bs0_L_api_Write : ∀ w, (Instr.buildSlice 26 0 [].toArray).run Try.prog w = .ok (Sl.v ⟨some ⟨w.heap.size, 0, none⟩, 0, 0⟩) (w.alloc (.cells #[] 52)) := fun w => by kernel_rfl
theorem bs1_L_api_Write (x : T_api_Write) : ∀ w, (Instr.buildSlice 26 1 [(0, (T_api_Write.v x))].toArray).run Try.prog w = .ok (Sl.v ⟨some ⟨w.heap.size, 0, none⟩, 1, 1⟩) (w.alloc (.cells (T_api_Write.cells x).toArray 52)) := fun w => by kernel_rfl
theorem einf_L_api_Write : (Try.prog.info? 52).map (fun i => (i.zero, i.size, i.bytes)) = some (some (.agg ([.string ⟨#[]⟩, .string ⟨#[]⟩, .bool false]).toArray), 3, 40) := by kernel_rfl
abbrev ty_api_Errno : TypeId := 28
theorem one_api_Errno : One Try.prog 28 := ⟨fun w => by kernel_rfl, fun w => by kernel_rfl⟩
abbrev zero_api_Errno : List Value := [.int .i64 0]
theorem new_api_Errno : ∀ w, (Instr.alloc 28 true (.tuple #[])).run Try.prog w = .ok (.pointer (some ⟨w.heap.size, 0, none⟩)) (w.alloc (.cells (zero_api_Errno).toArray 28)) := fun w => by kernel_rfl
theorem zv_api_Errno : ∀ w, (zeroValue 28).run Try.prog w = .ok (.int .i64 0) w := fun w => by kernel_rfl
abbrev ty_struct_Key_string_At_uint64_Val_string_Gone_bool : TypeId := 36
theorem agg_struct_Key_string_At_uint64_Val_string_Gone_bool : Agg Try.prog 36 4 := ⟨fun w => by kernel_rfl, fun w => by kernel_rfl, by kernel_rfl⟩
theorem fld_struct_Key_string_At_uint64_Val_string_Gone_bool_Key : ∀ p w, (Instr.fieldAt 36 (.pointer (some p)) 0).run Try.prog w = .ok (.pointer (some (p.add 0))) w := fun _ _ => by kernel_rfl
theorem fld_struct_Key_string_At_uint64_Val_string_Gone_bool_At : ∀ p w, (Instr.fieldAt 36 (.pointer (some p)) 1).run Try.prog w = .ok (.pointer (some (p.add 1))) w := fun _ _ => by kernel_rfl
theorem fld_struct_Key_string_At_uint64_Val_string_Gone_bool_Val : ∀ p w, (Instr.fieldAt 36 (.pointer (some p)) 2).run Try.prog w = .ok (.pointer (some (p.add 2))) w := fun _ _ => by kernel_rfl
theorem fld_struct_Key_string_At_uint64_Val_string_Gone_bool_Gone : ∀ p w, (Instr.fieldAt 36 (.pointer (some p)) 3).run Try.prog w = .ok (.pointer (some (p.add 3))) w := fun _ _ => by kernel_rfl
abbrev zero_struct_Key_string_At_uint64_Val_string_Gone_bool : List Value := [.string ⟨#[]⟩, .int .u64 0, .string ⟨#[]⟩, .bool false]
theorem new_struct_Key_string_At_uint64_Val_string_Gone_bool : ∀ w, (Instr.alloc 36 true (.tuple #[])).run Try.prog w = .ok (.pointer (some ⟨w.heap.size, 0, none⟩)) (w.alloc (.cells (zero_struct_Key_string_At_uint64_Val_string_Gone_bool).toArray 36)) := fun w => by kernel_rfl
theorem zv_struct_Key_string_At_uint64_Val_string_Gone_bool : ∀ w, (zeroValue 36).run Try.prog w = .ok (.agg (zero_struct_Key_string_At_uint64_Val_string_Gone_bool).toArray) w := fun w => by kernel_rfl
abbrev ty_api_Version : TypeId := 37
theorem agg_api_Version : Agg Try.prog 37 4 := ⟨fun w => by kernel_rfl, fun w => by kernel_rfl, by kernel_rfl⟩
theorem fld_api_Version_Key : ∀ p w, (Instr.fieldAt 37 (.pointer (some p)) 0).run Try.prog w = .ok (.pointer (some (p.add 0))) w := fun _ _ => by kernel_rfl
theorem fld_api_Version_At : ∀ p w, (Instr.fieldAt 37 (.pointer (some p)) 1).run Try.prog w = .ok (.pointer (some (p.add 1))) w := fun _ _ => by kernel_rfl
theorem fld_api_Version_Val : ∀ p w, (Instr.fieldAt 37 (.pointer (some p)) 2).run Try.prog w = .ok (.pointer (some (p.add 2))) w := fun _ _ => by kernel_rfl
theorem fld_api_Version_Gone : ∀ p w, (Instr.fieldAt 37 (.pointer (some p)) 3).run Try.prog w = .ok (.pointer (some (p.add 3))) w := fun _ _ => by kernel_rfl
abbrev zero_api_Version : List Value := [.string ⟨#[]⟩, .int .u64 0, .string ⟨#[]⟩, .bool false]
theorem new_api_Version : ∀ w, (Instr.alloc 37 true (.tuple #[])).run Try.prog w = .ok (.pointer (some ⟨w.heap.size, 0, none⟩)) (w.alloc (.cells (zero_api_Version).toArray 37)) := fun w => by kernel_rfl
theorem zv_api_Version : ∀ w, (zeroValue 37).run Try.prog w = .ok (.agg (zero_api_Version).toArray) w := fun w => by kernel_rfl
abbrev ty_L_api_Pair : TypeId := 41
theorem one_L_api_Pair : One Try.prog 41 := ⟨fun w => by kernel_rfl, fun w => by kernel_rfl⟩
abbrev zero_L_api_Pair : List Value := [.slice none 0 0]
theorem new_L_api_Pair : ∀ w, (Instr.alloc 41 true (.tuple #[])).run Try.prog w = .ok (.pointer (some ⟨w.heap.size, 0, none⟩)) (w.alloc (.cells (zero_L_api_Pair).toArray 41)) := fun w => by kernel_rfl
theorem zv_L_api_Pair : ∀ w, (zeroValue 41).run Try.prog w = .ok (.slice none 0 0) w := fun w => by kernel_rfl
theorem und_L_api_Pair : Try.prog.underlying 41 = some (.slice 45) := Try.underlying41
theorem esz_L_api_Pair : ∀ w, (sizeOf 45).run Try.prog w = .ok 2 w := fun w => by kernel_rfl
theorem bs0_L_api_Pair : ∀ w, (Instr.buildSlice 41 0 [].toArray).run Try.prog w = .ok (Sl.v ⟨some ⟨w.heap.size, 0, none⟩, 0, 0⟩) (w.alloc (.cells #[] 45)) := fun w => by kernel_rfl
theorem bs1_L_api_Pair (x : T_api_Pair) : ∀ w, (Instr.buildSlice 41 1 [(0, (T_api_Pair.v x))].toArray).run Try.prog w = .ok (Sl.v ⟨some ⟨w.heap.size, 0, none⟩, 1, 1⟩) (w.alloc (.cells (T_api_Pair.cells x).toArray 45)) := fun w => by kernel_rfl
theorem einf_L_api_Pair : (Try.prog.info? 45).map (fun i => (i.zero, i.size, i.bytes)) = some (some (.agg ([.string ⟨#[]⟩, .string ⟨#[]⟩]).toArray), 2, 32) := by kernel_rfl
abbrev ty_struct_Key_string_Val_string : TypeId := 44
theorem agg_struct_Key_string_Val_string : Agg Try.prog 44 2 := ⟨fun w => by kernel_rfl, fun w => by kernel_rfl, by kernel_rfl⟩
theorem fld_struct_Key_string_Val_string_Key : ∀ p w, (Instr.fieldAt 44 (.pointer (some p)) 0).run Try.prog w = .ok (.pointer (some (p.add 0))) w := fun _ _ => by kernel_rfl
theorem fld_struct_Key_string_Val_string_Val : ∀ p w, (Instr.fieldAt 44 (.pointer (some p)) 1).run Try.prog w = .ok (.pointer (some (p.add 1))) w := fun _ _ => by kernel_rfl
abbrev zero_struct_Key_string_Val_string : List Value := [.string ⟨#[]⟩, .string ⟨#[]⟩]
theorem new_struct_Key_string_Val_string : ∀ w, (Instr.alloc 44 true (.tuple #[])).run Try.prog w = .ok (.pointer (some ⟨w.heap.size, 0, none⟩)) (w.alloc (.cells (zero_struct_Key_string_Val_string).toArray 44)) := fun w => by kernel_rfl
theorem zv_struct_Key_string_Val_string : ∀ w, (zeroValue 44).run Try.prog w = .ok (.agg (zero_struct_Key_string_Val_string).toArray) w := fun w => by kernel_rfl
abbrev ty_api_Pair : TypeId := 45
theorem agg_api_Pair : Agg Try.prog 45 2 := ⟨fun w => by kernel_rfl, fun w => by kernel_rfl, by kernel_rfl⟩
theorem fld_api_Pair_Key : ∀ p w, (Instr.fieldAt 45 (.pointer (some p)) 0).run Try.prog w = .ok (.pointer (some (p.add 0))) w := fun _ _ => by kernel_rfl
theorem fld_api_Pair_Val : ∀ p w, (Instr.fieldAt 45 (.pointer (some p)) 1).run Try.prog w = .ok (.pointer (some (p.add 1))) w := fun _ _ => by kernel_rfl
abbrev zero_api_Pair : List Value := [.string ⟨#[]⟩, .string ⟨#[]⟩]
theorem new_api_Pair : ∀ w, (Instr.alloc 45 true (.tuple #[])).run Try.prog w = .ok (.pointer (some ⟨w.heap.size, 0, none⟩)) (w.alloc (.cells (zero_api_Pair).toArray 45)) := fun w => by kernel_rfl
theorem zv_api_Pair : ∀ w, (zeroValue 45).run Try.prog w = .ok (.agg (zero_api_Pair).toArray) w := fun w => by kernel_rfl
abbrev ty_struct_Key_string_Val_string_Gone_bool : TypeId := 51
theorem agg_struct_Key_string_Val_string_Gone_bool : Agg Try.prog 51 3 := ⟨fun w => by kernel_rfl, fun w => by kernel_rfl, by kernel_rfl⟩
theorem fld_struct_Key_string_Val_string_Gone_bool_Key : ∀ p w, (Instr.fieldAt 51 (.pointer (some p)) 0).run Try.prog w = .ok (.pointer (some (p.add 0))) w := fun _ _ => by kernel_rfl
theorem fld_struct_Key_string_Val_string_Gone_bool_Val : ∀ p w, (Instr.fieldAt 51 (.pointer (some p)) 1).run Try.prog w = .ok (.pointer (some (p.add 1))) w := fun _ _ => by kernel_rfl
theorem fld_struct_Key_string_Val_string_Gone_bool_Gone : ∀ p w, (Instr.fieldAt 51 (.pointer (some p)) 2).run Try.prog w = .ok (.pointer (some (p.add 2))) w := fun _ _ => by kernel_rfl
abbrev zero_struct_Key_string_Val_string_Gone_bool : List Value := [.string ⟨#[]⟩, .string ⟨#[]⟩, .bool false]
theorem new_struct_Key_string_Val_string_Gone_bool : ∀ w, (Instr.alloc 51 true (.tuple #[])).run Try.prog w = .ok (.pointer (some ⟨w.heap.size, 0, none⟩)) (w.alloc (.cells (zero_struct_Key_string_Val_string_Gone_bool).toArray 51)) := fun w => by kernel_rfl
theorem zv_struct_Key_string_Val_string_Gone_bool : ∀ w, (zeroValue 51).run Try.prog w = .ok (.agg (zero_struct_Key_string_Val_string_Gone_bool).toArray) w := fun w => by kernel_rfl
abbrev ty_api_Write : TypeId := 52
theorem agg_api_Write : Agg Try.prog 52 3 := ⟨fun w => by kernel_rfl, fun w => by kernel_rfl, by kernel_rfl⟩
theorem fld_api_Write_Key : ∀ p w, (Instr.fieldAt 52 (.pointer (some p)) 0).run Try.prog w = .ok (.pointer (some (p.add 0))) w := fun _ _ => by kernel_rfl
theorem fld_api_Write_Val : ∀ p w, (Instr.fieldAt 52 (.pointer (some p)) 1).run Try.prog w = .ok (.pointer (some (p.add 1))) w := fun _ _ => by kernel_rfl
theorem fld_api_Write_Gone : ∀ p w, (Instr.fieldAt 52 (.pointer (some p)) 2).run Try.prog w = .ok (.pointer (some (p.add 2))) w := fun _ _ => by kernel_rfl
abbrev zero_api_Write : List Value := [.string ⟨#[]⟩, .string ⟨#[]⟩, .bool false]
theorem new_api_Write : ∀ w, (Instr.alloc 52 true (.tuple #[])).run Try.prog w = .ok (.pointer (some ⟨w.heap.size, 0, none⟩)) (w.alloc (.cells (zero_api_Write).toArray 52)) := fun w => by kernel_rfl
theorem zv_api_Write : ∀ w, (zeroValue 52).run Try.prog w = .ok (.agg (zero_api_Write).toArray) w := fun w => by kernel_rfl
abbrev ty_iter_Seq2_string_L_api_Version : TypeId := 65
theorem one_iter_Seq2_string_L_api_Version : One Try.prog 65 := ⟨fun w => by kernel_rfl, fun w => by kernel_rfl⟩
abbrev zero_iter_Seq2_string_L_api_Version : List Value := [.nilFunc]
theorem new_iter_Seq2_string_L_api_Version : ∀ w, (Instr.alloc 65 true (.tuple #[])).run Try.prog w = .ok (.pointer (some ⟨w.heap.size, 0, none⟩)) (w.alloc (.cells (zero_iter_Seq2_string_L_api_Version).toArray 65)) := fun w => by kernel_rfl
theorem zv_iter_Seq2_string_L_api_Version : ∀ w, (zeroValue 65).run Try.prog w = .ok (.nilFunc) w := fun w => by kernel_rfl
abbrev ty_map_string_struct : TypeId := 74
theorem one_map_string_struct : One Try.prog 74 := ⟨fun w => by kernel_rfl, fun w => by kernel_rfl⟩
abbrev zero_map_string_struct : List Value := [.map none]
theorem new_map_string_struct : ∀ w, (Instr.alloc 74 true (.tuple #[])).run Try.prog w = .ok (.pointer (some ⟨w.heap.size, 0, none⟩)) (w.alloc (.cells (zero_map_string_struct).toArray 74)) := fun w => by kernel_rfl
theorem zv_map_string_struct : ∀ w, (zeroValue 74).run Try.prog w = .ok (.map none) w := fun w => by kernel_rfl
theorem und_map_string_struct : Try.prog.underlying 74 = some (.map 9 75) := Try.underlying74
abbrev ty_struct : TypeId := 75
abbrev ty_uint : TypeId := 80
theorem one_uint : One Try.prog 80 := ⟨fun w => by kernel_rfl, fun w => by kernel_rfl⟩
abbrev zero_uint : List Value := [.int .u64 0]
theorem new_uint : ∀ w, (Instr.alloc 80 true (.tuple #[])).run Try.prog w = .ok (.pointer (some ⟨w.heap.size, 0, none⟩)) (w.alloc (.cells (zero_uint).toArray 80)) := fun w => by kernel_rfl
theorem zv_uint : ∀ w, (zeroValue 80).run Try.prog w = .ok (.int .u64 0) w := fun w => by kernel_rfl
abbrev ty_slices_sortedHint : TypeId := 89
theorem one_slices_sortedHint : One Try.prog 89 := ⟨fun w => by kernel_rfl, fun w => by kernel_rfl⟩
abbrev zero_slices_sortedHint : List Value := [.int .i64 0]
theorem new_slices_sortedHint : ∀ w, (Instr.alloc 89 true (.tuple #[])).run Try.prog w = .ok (.pointer (some ⟨w.heap.size, 0, none⟩)) (w.alloc (.cells (zero_slices_sortedHint).toArray 89)) := fun w => by kernel_rfl
theorem zv_slices_sortedHint : ∀ w, (zeroValue 89).run Try.prog w = .ok (.int .i64 0) w := fun w => by kernel_rfl
abbrev ty_uint32 : TypeId := 96
theorem one_uint32 : One Try.prog 96 := ⟨fun w => by kernel_rfl, fun w => by kernel_rfl⟩
abbrev zero_uint32 : List Value := [.int .u32 0]
theorem new_uint32 : ∀ w, (Instr.alloc 96 true (.tuple #[])).run Try.prog w = .ok (.pointer (some ⟨w.heap.size, 0, none⟩)) (w.alloc (.cells (zero_uint32).toArray 96)) := fun w => by kernel_rfl
theorem zv_uint32 : ∀ w, (zeroValue 96).run Try.prog w = .ok (.int .u32 0) w := fun w => by kernel_rfl
abbrev ty_L_int : TypeId := 98
theorem one_L_int : One Try.prog 98 := ⟨fun w => by kernel_rfl, fun w => by kernel_rfl⟩
abbrev zero_L_int : List Value := [.slice none 0 0]
theorem new_L_int : ∀ w, (Instr.alloc 98 true (.tuple #[])).run Try.prog w = .ok (.pointer (some ⟨w.heap.size, 0, none⟩)) (w.alloc (.cells (zero_L_int).toArray 98)) := fun w => by kernel_rfl
theorem zv_L_int : ∀ w, (zeroValue 98).run Try.prog w = .ok (.slice none 0 0) w := fun w => by kernel_rfl
theorem und_L_int : Try.prog.underlying 98 = some (.slice 3) := Try.underlying98
theorem esz_L_int : ∀ w, (sizeOf 3).run Try.prog w = .ok 1 w := fun w => by kernel_rfl
theorem bs0_L_int : ∀ w, (Instr.buildSlice 98 0 [].toArray).run Try.prog w = .ok (Sl.v ⟨some ⟨w.heap.size, 0, none⟩, 0, 0⟩) (w.alloc (.cells #[] 3)) := fun w => by kernel_rfl
theorem bs1_L_int (x : Int) : ∀ w, (Instr.buildSlice 98 1 [(0, (.int .i64 x))].toArray).run Try.prog w = .ok (Sl.v ⟨some ⟨w.heap.size, 0, none⟩, 1, 1⟩) (w.alloc (.cells [(.int .i64 x)].toArray 3)) := fun w => by kernel_rfl
theorem einf_L_int : (Try.prog.info? 3).map (fun i => (i.zero, i.size, i.bytes)) = some (some (.int .i64 0), 1, 8) := by kernel_rfl
abbrev ty_slices_xorshift : TypeId := 101
theorem one_slices_xorshift : One Try.prog 101 := ⟨fun w => by kernel_rfl, fun w => by kernel_rfl⟩
abbrev zero_slices_xorshift : List Value := [.int .u64 0]
theorem new_slices_xorshift : ∀ w, (Instr.alloc 101 true (.tuple #[])).run Try.prog w = .ok (.pointer (some ⟨w.heap.size, 0, none⟩)) (w.alloc (.cells (zero_slices_xorshift).toArray 101)) := fun w => by kernel_rfl
theorem zv_slices_xorshift : ∀ w, (zeroValue 101).run Try.prog w = .ok (.int .u64 0) w := fun w => by kernel_rfl
abbrev ty_P_int : TypeId := 105
theorem one_P_int : One Try.prog 105 := ⟨fun w => by kernel_rfl, fun w => by kernel_rfl⟩
abbrev zero_P_int : List Value := [.pointer none]
theorem new_P_int : ∀ w, (Instr.alloc 105 true (.tuple #[])).run Try.prog w = .ok (.pointer (some ⟨w.heap.size, 0, none⟩)) (w.alloc (.cells (zero_P_int).toArray 105)) := fun w => by kernel_rfl
theorem zv_P_int : ∀ w, (zeroValue 105).run Try.prog w = .ok (.pointer none) w := fun w => by kernel_rfl
abbrev ty_P_slices_xorshift : TypeId := 107
theorem one_P_slices_xorshift : One Try.prog 107 := ⟨fun w => by kernel_rfl, fun w => by kernel_rfl⟩
abbrev zero_P_slices_xorshift : List Value := [.pointer none]
theorem new_P_slices_xorshift : ∀ w, (Instr.alloc 107 true (.tuple #[])).run Try.prog w = .ok (.pointer (some ⟨w.heap.size, 0, none⟩)) (w.alloc (.cells (zero_P_slices_xorshift).toArray 107)) := fun w => by kernel_rfl
theorem zv_P_slices_xorshift : ∀ w, (zeroValue 107).run Try.prog w = .ok (.pointer none) w := fun w => by kernel_rfl
abbrev ty_P_uint8 : TypeId := 120
theorem one_P_uint8 : One Try.prog 120 := ⟨fun w => by kernel_rfl, fun w => by kernel_rfl⟩
abbrev zero_P_uint8 : List Value := [.pointer none]
theorem new_P_uint8 : ∀ w, (Instr.alloc 120 true (.tuple #[])).run Try.prog w = .ok (.pointer (some ⟨w.heap.size, 0, none⟩)) (w.alloc (.cells (zero_P_uint8).toArray 120)) := fun w => by kernel_rfl
theorem zv_P_uint8 : ∀ w, (zeroValue 120).run Try.prog w = .ok (.pointer none) w := fun w => by kernel_rfl
abbrev ty_unsafe_Pointer : TypeId := 125
theorem one_unsafe_Pointer : One Try.prog 125 := ⟨fun w => by kernel_rfl, fun w => by kernel_rfl⟩
abbrev zero_unsafe_Pointer : List Value := [.pointer none]
theorem new_unsafe_Pointer : ∀ w, (Instr.alloc 125 true (.tuple #[])).run Try.prog w = .ok (.pointer (some ⟨w.heap.size, 0, none⟩)) (w.alloc (.cells (zero_unsafe_Pointer).toArray 125)) := fun w => by kernel_rfl
theorem zv_unsafe_Pointer : ∀ w, (zeroValue 125).run Try.prog w = .ok (.pointer none) w := fun w => by kernel_rfl
theorem eqA_api_Version (x y : T_api_Version) (d : Nat) (w : World) : ∃ r, (Op.equalIn (d + 4) 37 (T_api_Version.v x) (T_api_Version.v y)).run Try.prog w = .ok r w ∧ (r = true ↔ x = y) := by
  refine eqA Try.underlying37 rfl (by kernel_rfl) ?_ (eqf_cons (a := (.string x.Key)) (b := (.string y.Key)) (by rfl) (by kernel_rfl) (by kernel_rfl) (eqS Try.underlying9 _ _) (eqf_cons (a := (.int .u64 x.At)) (b := (.int .u64 y.At)) (by rfl) (by kernel_rfl) (by kernel_rfl) (eqI Try.underlying23 _ _) (eqf_cons (a := (.string x.Val)) (b := (.string y.Val)) (by rfl) (by kernel_rfl) (by kernel_rfl) (eqS Try.underlying9 _ _) (eqf_cons (a := (.bool x.Gone)) (b := (.bool y.Gone)) (by rfl) (by kernel_rfl) (by kernel_rfl) (eqB Try.underlying4 _ _) (eqf_nil)))))
  cases x; cases y; simp
theorem eql_api_Version (x y : T_api_Version) (o1 o2 : Operand) : ∃ r, (∀ w, (do eqGuard .eql 37 o1 o2 (T_api_Version.v x) (T_api_Version.v y); binOp .eql 37 (T_api_Version.v x) (T_api_Version.v y) : Sem Value).run Try.prog w = .ok (.bool r) w) ∧ (r = true ↔ x = y) := eqop (by kernel_rfl) (eqA_api_Version x y)
theorem neq_api_Version (x y : T_api_Version) (o1 o2 : Operand) : ∃ r, (∀ w, (do eqGuard .neq 37 o1 o2 (T_api_Version.v x) (T_api_Version.v y); binOp .neq 37 (T_api_Version.v x) (T_api_Version.v y) : Sem Value).run Try.prog w = .ok (.bool r) w) ∧ (r = true ↔ ¬ x = y) := neop (by kernel_rfl) (eqA_api_Version x y)
theorem eqA_api_Pair (x y : T_api_Pair) (d : Nat) (w : World) : ∃ r, (Op.equalIn (d + 4) 45 (T_api_Pair.v x) (T_api_Pair.v y)).run Try.prog w = .ok r w ∧ (r = true ↔ x = y) := by
  refine eqA Try.underlying45 rfl (by kernel_rfl) ?_ (eqf_cons (a := (.string x.Key)) (b := (.string y.Key)) (by rfl) (by kernel_rfl) (by kernel_rfl) (eqS Try.underlying9 _ _) (eqf_cons (a := (.string x.Val)) (b := (.string y.Val)) (by rfl) (by kernel_rfl) (by kernel_rfl) (eqS Try.underlying9 _ _) (eqf_nil)))
  cases x; cases y; simp
theorem eql_api_Pair (x y : T_api_Pair) (o1 o2 : Operand) : ∃ r, (∀ w, (do eqGuard .eql 45 o1 o2 (T_api_Pair.v x) (T_api_Pair.v y); binOp .eql 45 (T_api_Pair.v x) (T_api_Pair.v y) : Sem Value).run Try.prog w = .ok (.bool r) w) ∧ (r = true ↔ x = y) := eqop (by kernel_rfl) (eqA_api_Pair x y)
theorem neq_api_Pair (x y : T_api_Pair) (o1 o2 : Operand) : ∃ r, (∀ w, (do eqGuard .neq 45 o1 o2 (T_api_Pair.v x) (T_api_Pair.v y); binOp .neq 45 (T_api_Pair.v x) (T_api_Pair.v y) : Sem Value).run Try.prog w = .ok (.bool r) w) ∧ (r = true ↔ ¬ x = y) := neop (by kernel_rfl) (eqA_api_Pair x y)
theorem eqA_api_Write (x y : T_api_Write) (d : Nat) (w : World) : ∃ r, (Op.equalIn (d + 4) 52 (T_api_Write.v x) (T_api_Write.v y)).run Try.prog w = .ok r w ∧ (r = true ↔ x = y) := by
  refine eqA Try.underlying52 rfl (by kernel_rfl) ?_ (eqf_cons (a := (.string x.Key)) (b := (.string y.Key)) (by rfl) (by kernel_rfl) (by kernel_rfl) (eqS Try.underlying9 _ _) (eqf_cons (a := (.string x.Val)) (b := (.string y.Val)) (by rfl) (by kernel_rfl) (by kernel_rfl) (eqS Try.underlying9 _ _) (eqf_cons (a := (.bool x.Gone)) (b := (.bool y.Gone)) (by rfl) (by kernel_rfl) (by kernel_rfl) (eqB Try.underlying4 _ _) (eqf_nil))))
  cases x; cases y; simp
theorem eql_api_Write (x y : T_api_Write) (o1 o2 : Operand) : ∃ r, (∀ w, (do eqGuard .eql 52 o1 o2 (T_api_Write.v x) (T_api_Write.v y); binOp .eql 52 (T_api_Write.v x) (T_api_Write.v y) : Sem Value).run Try.prog w = .ok (.bool r) w) ∧ (r = true ↔ x = y) := eqop (by kernel_rfl) (eqA_api_Write x y)
theorem neq_api_Write (x y : T_api_Write) (o1 o2 : Operand) : ∃ r, (∀ w, (do eqGuard .neq 52 o1 o2 (T_api_Write.v x) (T_api_Write.v y); binOp .neq 52 (T_api_Write.v x) (T_api_Write.v y) : Sem Value).run Try.prog w = .ok (.bool r) w) ∧ (r = true ↔ ¬ x = y) := neop (by kernel_rfl) (eqA_api_Write x y)
end Go.Proofs.Ytealcoghiaeiiaa.VG

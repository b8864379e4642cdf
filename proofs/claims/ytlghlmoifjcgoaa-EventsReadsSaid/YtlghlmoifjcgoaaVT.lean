/- Facts on the loaded program's types, by program (gen.py); no condition. -/
import Derived.Test.YtlghlmoifjcgoaaVS
import Derived.Test.YtlghlmoifjcgoaaVLib
import Derived.KernelRfl
set_option linter.unusedVariables false
namespace Go.Proofs.Ytlghlmoifjcgoaa.VG
open Go.VB Go.Proofs

abbrev ty_int64 : TypeId := 2
theorem one_int64 : One Try.prog 2 := ⟨fun w => by kernel_rfl, fun w => by kernel_rfl⟩
abbrev zero_int64 : List Value := [.int .i64 0]
theorem new_int64 : ∀ w, (Instr.alloc 2 true (.tuple #[])).run Try.prog w = .ok (.pointer (some ⟨w.heap.size, 0, none⟩)) (w.alloc (.cells (zero_int64).toArray 2)) := fun w => by kernel_rfl
theorem zv_int64 : ∀ w, (zeroValue 2).run Try.prog w = .ok (.int .i64 0) w := fun w => by kernel_rfl
abbrev ty_int : TypeId := 3
theorem one_int : One Try.prog 3 := ⟨fun w => by kernel_rfl, fun w => by kernel_rfl⟩
abbrev zero_int : List Value := [.int .i64 0]
theorem new_int : ∀ w, (Instr.alloc 3 true (.tuple #[])).run Try.prog w = .ok (.pointer (some ⟨w.heap.size, 0, none⟩)) (w.alloc (.cells (zero_int).toArray 3)) := fun w => by kernel_rfl
theorem zv_int : ∀ w, (zeroValue 3).run Try.prog w = .ok (.int .i64 0) w := fun w => by kernel_rfl
abbrev ty_bool : TypeId := 4
theorem one_bool : One Try.prog 4 := ⟨fun w => by kernel_rfl, fun w => by kernel_rfl⟩
abbrev zero_bool : List Value := [.bool false]
theorem new_bool : ∀ w, (Instr.alloc 4 true (.tuple #[])).run Try.prog w = .ok (.pointer (some ⟨w.heap.size, 0, none⟩)) (w.alloc (.cells (zero_bool).toArray 4)) := fun w => by kernel_rfl
theorem zv_bool : ∀ w, (zeroValue 4).run Try.prog w = .ok (.bool false) w := fun w => by kernel_rfl
abbrev ty_uint8 : TypeId := 5
theorem one_uint8 : One Try.prog 5 := ⟨fun w => by kernel_rfl, fun w => by kernel_rfl⟩
abbrev zero_uint8 : List Value := [.int .u8 0]
theorem new_uint8 : ∀ w, (Instr.alloc 5 true (.tuple #[])).run Try.prog w = .ok (.pointer (some ⟨w.heap.size, 0, none⟩)) (w.alloc (.cells (zero_uint8).toArray 5)) := fun w => by kernel_rfl
theorem zv_uint8 : ∀ w, (zeroValue 5).run Try.prog w = .ok (.int .u8 0) w := fun w => by kernel_rfl
abbrev ty_string : TypeId := 9
theorem one_string : One Try.prog 9 := ⟨fun w => by kernel_rfl, fun w => by kernel_rfl⟩
abbrev zero_string : List Value := [.string ⟨#[]⟩]
theorem new_string : ∀ w, (Instr.alloc 9 true (.tuple #[])).run Try.prog w = .ok (.pointer (some ⟨w.heap.size, 0, none⟩)) (w.alloc (.cells (zero_string).toArray 9)) := fun w => by kernel_rfl
theorem zv_string : ∀ w, (zeroValue 9).run Try.prog w = .ok (.string ⟨#[]⟩) w := fun w => by kernel_rfl
abbrev ty_uintptr : TypeId := 12
theorem one_uintptr : One Try.prog 12 := ⟨fun w => by kernel_rfl, fun w => by kernel_rfl⟩
abbrev zero_uintptr : List Value := [.int .u64 0]
theorem new_uintptr : ∀ w, (Instr.alloc 12 true (.tuple #[])).run Try.prog w = .ok (.pointer (some ⟨w.heap.size, 0, none⟩)) (w.alloc (.cells (zero_uintptr).toArray 12)) := fun w => by kernel_rfl
theorem zv_uintptr : ∀ w, (zeroValue 12).run Try.prog w = .ok (.int .u64 0) w := fun w => by kernel_rfl
abbrev ty_struct_msg_string_addr_uintptr : TypeId := 13
theorem agg_struct_msg_string_addr_uintptr : Agg Try.prog 13 2 := ⟨fun w => by kernel_rfl, fun w => by kernel_rfl, by kernel_rfl⟩
theorem fld_struct_msg_string_addr_uintptr_msg : ∀ p w, (Instr.fieldAt 13 (.pointer (some p)) 0).run Try.prog w = .ok (.pointer (some (p.add 0))) w := fun _ _ => by kernel_rfl
theorem fld_struct_msg_string_addr_uintptr_addr : ∀ p w, (Instr.fieldAt 13 (.pointer (some p)) 1).run Try.prog w = .ok (.pointer (some (p.add 1))) w := fun _ _ => by kernel_rfl
abbrev zero_struct_msg_string_addr_uintptr : List Value := [.string ⟨#[]⟩, .int .u64 0]
theorem new_struct_msg_string_addr_uintptr : ∀ w, (Instr.alloc 13 true (.tuple #[])).run Try.prog w = .ok (.pointer (some ⟨w.heap.size, 0, none⟩)) (w.alloc (.cells (zero_struct_msg_string_addr_uintptr).toArray 13)) := fun w => by kernel_rfl
theorem zv_struct_msg_string_addr_uintptr : ∀ w, (zeroValue 13).run Try.prog w = .ok (.agg (zero_struct_msg_string_addr_uintptr).toArray) w := fun w => by kernel_rfl
abbrev ty_interface : TypeId := 20
theorem one_interface : One Try.prog 20 := ⟨fun w => by kernel_rfl, fun w => by kernel_rfl⟩
abbrev zero_interface : List Value := [.nilIface]
theorem new_interface : ∀ w, (Instr.alloc 20 true (.tuple #[])).run Try.prog w = .ok (.pointer (some ⟨w.heap.size, 0, none⟩)) (w.alloc (.cells (zero_interface).toArray 20)) := fun w => by kernel_rfl
theorem zv_interface : ∀ w, (zeroValue 20).run Try.prog w = .ok (.nilIface) w := fun w => by kernel_rfl
abbrev ty_int32 : TypeId := 21
theorem one_int32 : One Try.prog 21 := ⟨fun w => by kernel_rfl, fun w => by kernel_rfl⟩
abbrev zero_int32 : List Value := [.int .i32 0]
theorem new_int32 : ∀ w, (Instr.alloc 21 true (.tuple #[])).run Try.prog w = .ok (.pointer (some ⟨w.heap.size, 0, none⟩)) (w.alloc (.cells (zero_int32).toArray 21)) := fun w => by kernel_rfl
theorem zv_int32 : ∀ w, (zeroValue 21).run Try.prog w = .ok (.int .i32 0) w := fun w => by kernel_rfl
abbrev ty_L_api_Event : TypeId := 22
theorem one_L_api_Event : One Try.prog 22 := ⟨fun w => by kernel_rfl, fun w => by kernel_rfl⟩
abbrev zero_L_api_Event : List Value := [.slice none 0 0]
theorem new_L_api_Event : ∀ w, (Instr.alloc 22 true (.tuple #[])).run Try.prog w = .ok (.pointer (some ⟨w.heap.size, 0, none⟩)) (w.alloc (.cells (zero_L_api_Event).toArray 22)) := fun w => by kernel_rfl
theorem zv_L_api_Event : ∀ w, (zeroValue 22).run Try.prog w = .ok (.slice none 0 0) w := fun w => by kernel_rfl
theorem und_L_api_Event : Try.prog.underlying 22 = some (.slice 32) := Try.underlying22
theorem esz_L_api_Event : ∀ w, (sizeOf 32).run Try.prog w = .ok 5 w := fun w => by kernel_rfl
theorem bs0_L_api_Event : ∀ w, (Instr.buildSlice 22 0 [].toArray).run Try.prog w = .ok (Sl.v ⟨some ⟨w.heap.size, 0, none⟩, 0, 0⟩) (w.alloc (.cells #[] 32)) := fun w => by kernel_rfl
theorem bs1_L_api_Event (x : T_api_Event) : ∀ w, (Instr.buildSlice 22 1 [(0, (T_api_Event.v x))].toArray).run Try.prog w = .ok (Sl.v ⟨some ⟨w.heap.size, 0, none⟩, 1, 1⟩) (w.alloc (.cells (T_api_Event.cells x).toArray 32)) := fun w => by kernel_rfl
theorem einf_L_api_Event : (Try.prog.info? 32).map (fun i => (i.zero, i.size, i.bytes)) = some (some (.agg ([.string ⟨#[]⟩, .int .i64 0, .int .i64 0, .string ⟨#[]⟩, .string ⟨#[]⟩]).toArray), 5, 64) := by kernel_rfl
abbrev ty_L_string : TypeId := 23
theorem one_L_string : One Try.prog 23 := ⟨fun w => by kernel_rfl, fun w => by kernel_rfl⟩
abbrev zero_L_string : List Value := [.slice none 0 0]
theorem new_L_string : ∀ w, (Instr.alloc 23 true (.tuple #[])).run Try.prog w = .ok (.pointer (some ⟨w.heap.size, 0, none⟩)) (w.alloc (.cells (zero_L_string).toArray 23)) := fun w => by kernel_rfl
theorem zv_L_string : ∀ w, (zeroValue 23).run Try.prog w = .ok (.slice none 0 0) w := fun w => by kernel_rfl
theorem und_L_string : Try.prog.underlying 23 = some (.slice 9) := Try.underlying23
theorem esz_L_string : ∀ w, (sizeOf 9).run Try.prog w = .ok 1 w := fun w => by kernel_rfl
theorem bs0_L_string : ∀ w, (Instr.buildSlice 23 0 [].toArray).run Try.prog w = .ok (Sl.v ⟨some ⟨w.heap.size, 0, none⟩, 0, 0⟩) (w.alloc (.cells #[] 9)) := fun w => by kernel_rfl
theorem bs1_L_string (x : ByteArray) : ∀ w, (Instr.buildSlice 23 1 [(0, (.string x))].toArray).run Try.prog w = .ok (Sl.v ⟨some ⟨w.heap.size, 0, none⟩, 1, 1⟩) (w.alloc (.cells [(.string x)].toArray 9)) := fun w => by kernel_rfl
theorem einf_L_string : (Try.prog.info? 9).map (fun i => (i.zero, i.size, i.bytes)) = some (some (.string ⟨#[]⟩), 1, 16) := by kernel_rfl
abbrev ty_api_Errno : TypeId := 24
theorem one_api_Errno : One Try.prog 24 := ⟨fun w => by kernel_rfl, fun w => by kernel_rfl⟩
abbrev zero_api_Errno : List Value := [.int .i64 0]
theorem new_api_Errno : ∀ w, (Instr.alloc 24 true (.tuple #[])).run Try.prog w = .ok (.pointer (some ⟨w.heap.size, 0, none⟩)) (w.alloc (.cells (zero_api_Errno).toArray 24)) := fun w => by kernel_rfl
theorem zv_api_Errno : ∀ w, (zeroValue 24).run Try.prog w = .ok (.int .i64 0) w := fun w => by kernel_rfl
abbrev ty_struct_Stream_string_Num_int_Global_int_Mark_string_Data_string : TypeId := 31
theorem agg_struct_Stream_string_Num_int_Global_int_Mark_string_Data_string : Agg Try.prog 31 5 := ⟨fun w => by kernel_rfl, fun w => by kernel_rfl, by kernel_rfl⟩
theorem fld_struct_Stream_string_Num_int_Global_int_Mark_string_Data_string_Stream : ∀ p w, (Instr.fieldAt 31 (.pointer (some p)) 0).run Try.prog w = .ok (.pointer (some (p.add 0))) w := fun _ _ => by kernel_rfl
theorem fld_struct_Stream_string_Num_int_Global_int_Mark_string_Data_string_Num : ∀ p w, (Instr.fieldAt 31 (.pointer (some p)) 1).run Try.prog w = .ok (.pointer (some (p.add 1))) w := fun _ _ => by kernel_rfl
theorem fld_struct_Stream_string_Num_int_Global_int_Mark_string_Data_string_Global : ∀ p w, (Instr.fieldAt 31 (.pointer (some p)) 2).run Try.prog w = .ok (.pointer (some (p.add 2))) w := fun _ _ => by kernel_rfl
theorem fld_struct_Stream_string_Num_int_Global_int_Mark_string_Data_string_Mark : ∀ p w, (Instr.fieldAt 31 (.pointer (some p)) 3).run Try.prog w = .ok (.pointer (some (p.add 3))) w := fun _ _ => by kernel_rfl
theorem fld_struct_Stream_string_Num_int_Global_int_Mark_string_Data_string_Data : ∀ p w, (Instr.fieldAt 31 (.pointer (some p)) 4).run Try.prog w = .ok (.pointer (some (p.add 4))) w := fun _ _ => by kernel_rfl
abbrev zero_struct_Stream_string_Num_int_Global_int_Mark_string_Data_string : List Value := [.string ⟨#[]⟩, .int .i64 0, .int .i64 0, .string ⟨#[]⟩, .string ⟨#[]⟩]
theorem new_struct_Stream_string_Num_int_Global_int_Mark_string_Data_string : ∀ w, (Instr.alloc 31 true (.tuple #[])).run Try.prog w = .ok (.pointer (some ⟨w.heap.size, 0, none⟩)) (w.alloc (.cells (zero_struct_Stream_string_Num_int_Global_int_Mark_string_Data_string).toArray 31)) := fun w => by kernel_rfl
theorem zv_struct_Stream_string_Num_int_Global_int_Mark_string_Data_string : ∀ w, (zeroValue 31).run Try.prog w = .ok (.agg (zero_struct_Stream_string_Num_int_Global_int_Mark_string_Data_string).toArray) w := fun w => by kernel_rfl
abbrev ty_api_Event : TypeId := 32
theorem agg_api_Event : Agg Try.prog 32 5 := ⟨fun w => by kernel_rfl, fun w => by kernel_rfl, by kernel_rfl⟩
theorem fld_api_Event_Stream : ∀ p w, (Instr.fieldAt 32 (.pointer (some p)) 0).run Try.prog w = .ok (.pointer (some (p.add 0))) w := fun _ _ => by kernel_rfl
theorem fld_api_Event_Num : ∀ p w, (Instr.fieldAt 32 (.pointer (some p)) 1).run Try.prog w = .ok (.pointer (some (p.add 1))) w := fun _ _ => by kernel_rfl
theorem fld_api_Event_Global : ∀ p w, (Instr.fieldAt 32 (.pointer (some p)) 2).run Try.prog w = .ok (.pointer (some (p.add 2))) w := fun _ _ => by kernel_rfl
theorem fld_api_Event_Mark : ∀ p w, (Instr.fieldAt 32 (.pointer (some p)) 3).run Try.prog w = .ok (.pointer (some (p.add 3))) w := fun _ _ => by kernel_rfl
theorem fld_api_Event_Data : ∀ p w, (Instr.fieldAt 32 (.pointer (some p)) 4).run Try.prog w = .ok (.pointer (some (p.add 4))) w := fun _ _ => by kernel_rfl
abbrev zero_api_Event : List Value := [.string ⟨#[]⟩, .int .i64 0, .int .i64 0, .string ⟨#[]⟩, .string ⟨#[]⟩]
theorem new_api_Event : ∀ w, (Instr.alloc 32 true (.tuple #[])).run Try.prog w = .ok (.pointer (some ⟨w.heap.size, 0, none⟩)) (w.alloc (.cells (zero_api_Event).toArray 32)) := fun w => by kernel_rfl
theorem zv_api_Event : ∀ w, (zeroValue 32).run Try.prog w = .ok (.agg (zero_api_Event).toArray) w := fun w => by kernel_rfl
abbrev ty_iter_Seq_api_Event : TypeId := 48
theorem one_iter_Seq_api_Event : One Try.prog 48 := ⟨fun w => by kernel_rfl, fun w => by kernel_rfl⟩
abbrev zero_iter_Seq_api_Event : List Value := [.nilFunc]
theorem new_iter_Seq_api_Event : ∀ w, (Instr.alloc 48 true (.tuple #[])).run Try.prog w = .ok (.pointer (some ⟨w.heap.size, 0, none⟩)) (w.alloc (.cells (zero_iter_Seq_api_Event).toArray 48)) := fun w => by kernel_rfl
theorem zv_iter_Seq_api_Event : ∀ w, (zeroValue 48).run Try.prog w = .ok (.nilFunc) w := fun w => by kernel_rfl
abbrev ty_map_string_int : TypeId := 54
theorem one_map_string_int : One Try.prog 54 := ⟨fun w => by kernel_rfl, fun w => by kernel_rfl⟩
abbrev zero_map_string_int : List Value := [.map none]
theorem new_map_string_int : ∀ w, (Instr.alloc 54 true (.tuple #[])).run Try.prog w = .ok (.pointer (some ⟨w.heap.size, 0, none⟩)) (w.alloc (.cells (zero_map_string_int).toArray 54)) := fun w => by kernel_rfl
theorem zv_map_string_int : ∀ w, (zeroValue 54).run Try.prog w = .ok (.map none) w := fun w => by kernel_rfl
abbrev ty_map_events_mark_int : TypeId := 55
theorem one_map_events_mark_int : One Try.prog 55 := ⟨fun w => by kernel_rfl, fun w => by kernel_rfl⟩
abbrev zero_map_events_mark_int : List Value := [.map none]
theorem new_map_events_mark_int : ∀ w, (Instr.alloc 55 true (.tuple #[])).run Try.prog w = .ok (.pointer (some ⟨w.heap.size, 0, none⟩)) (w.alloc (.cells (zero_map_events_mark_int).toArray 55)) := fun w => by kernel_rfl
theorem zv_map_events_mark_int : ∀ w, (zeroValue 55).run Try.prog w = .ok (.map none) w := fun w => by kernel_rfl
abbrev ty_struct_stream_string_mark_string : TypeId := 56
theorem agg_struct_stream_string_mark_string : Agg Try.prog 56 2 := ⟨fun w => by kernel_rfl, fun w => by kernel_rfl, by kernel_rfl⟩
theorem fld_struct_stream_string_mark_string_stream : ∀ p w, (Instr.fieldAt 56 (.pointer (some p)) 0).run Try.prog w = .ok (.pointer (some (p.add 0))) w := fun _ _ => by kernel_rfl
theorem fld_struct_stream_string_mark_string_mark : ∀ p w, (Instr.fieldAt 56 (.pointer (some p)) 1).run Try.prog w = .ok (.pointer (some (p.add 1))) w := fun _ _ => by kernel_rfl
abbrev zero_struct_stream_string_mark_string : List Value := [.string ⟨#[]⟩, .string ⟨#[]⟩]
theorem new_struct_stream_string_mark_string : ∀ w, (Instr.alloc 56 true (.tuple #[])).run Try.prog w = .ok (.pointer (some ⟨w.heap.size, 0, none⟩)) (w.alloc (.cells (zero_struct_stream_string_mark_string).toArray 56)) := fun w => by kernel_rfl
theorem zv_struct_stream_string_mark_string : ∀ w, (zeroValue 56).run Try.prog w = .ok (.agg (zero_struct_stream_string_mark_string).toArray) w := fun w => by kernel_rfl
abbrev ty_events_mark : TypeId := 57
theorem agg_events_mark : Agg Try.prog 57 2 := ⟨fun w => by kernel_rfl, fun w => by kernel_rfl, by kernel_rfl⟩
theorem fld_events_mark_stream : ∀ p w, (Instr.fieldAt 57 (.pointer (some p)) 0).run Try.prog w = .ok (.pointer (some (p.add 0))) w := fun _ _ => by kernel_rfl
theorem fld_events_mark_mark : ∀ p w, (Instr.fieldAt 57 (.pointer (some p)) 1).run Try.prog w = .ok (.pointer (some (p.add 1))) w := fun _ _ => by kernel_rfl
abbrev zero_events_mark : List Value := [.string ⟨#[]⟩, .string ⟨#[]⟩]
theorem new_events_mark : ∀ w, (Instr.alloc 57 true (.tuple #[])).run Try.prog w = .ok (.pointer (some ⟨w.heap.size, 0, none⟩)) (w.alloc (.cells (zero_events_mark).toArray 57)) := fun w => by kernel_rfl
theorem zv_events_mark : ∀ w, (zeroValue 57).run Try.prog w = .ok (.agg (zero_events_mark).toArray) w := fun w => by kernel_rfl
abbrev ty_map_string_struct : TypeId := 60
theorem one_map_string_struct : One Try.prog 60 := ⟨fun w => by kernel_rfl, fun w => by kernel_rfl⟩
abbrev zero_map_string_struct : List Value := [.map none]
theorem new_map_string_struct : ∀ w, (Instr.alloc 60 true (.tuple #[])).run Try.prog w = .ok (.pointer (some ⟨w.heap.size, 0, none⟩)) (w.alloc (.cells (zero_map_string_struct).toArray 60)) := fun w => by kernel_rfl
theorem zv_map_string_struct : ∀ w, (zeroValue 60).run Try.prog w = .ok (.map none) w := fun w => by kernel_rfl
abbrev ty_struct : TypeId := 61
abbrev ty_iter_Seq_string : TypeId := 64
theorem one_iter_Seq_string : One Try.prog 64 := ⟨fun w => by kernel_rfl, fun w => by kernel_rfl⟩
abbrev zero_iter_Seq_string : List Value := [.nilFunc]
theorem new_iter_Seq_string : ∀ w, (Instr.alloc 64 true (.tuple #[])).run Try.prog w = .ok (.pointer (some ⟨w.heap.size, 0, none⟩)) (w.alloc (.cells (zero_iter_Seq_string).toArray 64)) := fun w => by kernel_rfl
theorem zv_iter_Seq_string : ∀ w, (zeroValue 64).run Try.prog w = .ok (.nilFunc) w := fun w => by kernel_rfl
abbrev ty_uint : TypeId := 74
theorem one_uint : One Try.prog 74 := ⟨fun w => by kernel_rfl, fun w => by kernel_rfl⟩
abbrev zero_uint : List Value := [.int .u64 0]
theorem new_uint : ∀ w, (Instr.alloc 74 true (.tuple #[])).run Try.prog w = .ok (.pointer (some ⟨w.heap.size, 0, none⟩)) (w.alloc (.cells (zero_uint).toArray 74)) := fun w => by kernel_rfl
theorem zv_uint : ∀ w, (zeroValue 74).run Try.prog w = .ok (.int .u64 0) w := fun w => by kernel_rfl
abbrev ty_slices_sortedHint : TypeId := 76
theorem one_slices_sortedHint : One Try.prog 76 := ⟨fun w => by kernel_rfl, fun w => by kernel_rfl⟩
abbrev zero_slices_sortedHint : List Value := [.int .i64 0]
theorem new_slices_sortedHint : ∀ w, (Instr.alloc 76 true (.tuple #[])).run Try.prog w = .ok (.pointer (some ⟨w.heap.size, 0, none⟩)) (w.alloc (.cells (zero_slices_sortedHint).toArray 76)) := fun w => by kernel_rfl
theorem zv_slices_sortedHint : ∀ w, (zeroValue 76).run Try.prog w = .ok (.int .i64 0) w := fun w => by kernel_rfl
abbrev ty_uint32 : TypeId := 85
theorem one_uint32 : One Try.prog 85 := ⟨fun w => by kernel_rfl, fun w => by kernel_rfl⟩
abbrev zero_uint32 : List Value := [.int .u32 0]
theorem new_uint32 : ∀ w, (Instr.alloc 85 true (.tuple #[])).run Try.prog w = .ok (.pointer (some ⟨w.heap.size, 0, none⟩)) (w.alloc (.cells (zero_uint32).toArray 85)) := fun w => by kernel_rfl
theorem zv_uint32 : ∀ w, (zeroValue 85).run Try.prog w = .ok (.int .u32 0) w := fun w => by kernel_rfl
abbrev ty_uint64 : TypeId := 87
theorem one_uint64 : One Try.prog 87 := ⟨fun w => by kernel_rfl, fun w => by kernel_rfl⟩
abbrev zero_uint64 : List Value := [.int .u64 0]
theorem new_uint64 : ∀ w, (Instr.alloc 87 true (.tuple #[])).run Try.prog w = .ok (.pointer (some ⟨w.heap.size, 0, none⟩)) (w.alloc (.cells (zero_uint64).toArray 87)) := fun w => by kernel_rfl
theorem zv_uint64 : ∀ w, (zeroValue 87).run Try.prog w = .ok (.int .u64 0) w := fun w => by kernel_rfl
abbrev ty_slices_xorshift : TypeId := 88
theorem one_slices_xorshift : One Try.prog 88 := ⟨fun w => by kernel_rfl, fun w => by kernel_rfl⟩
abbrev zero_slices_xorshift : List Value := [.int .u64 0]
theorem new_slices_xorshift : ∀ w, (Instr.alloc 88 true (.tuple #[])).run Try.prog w = .ok (.pointer (some ⟨w.heap.size, 0, none⟩)) (w.alloc (.cells (zero_slices_xorshift).toArray 88)) := fun w => by kernel_rfl
theorem zv_slices_xorshift : ∀ w, (zeroValue 88).run Try.prog w = .ok (.int .u64 0) w := fun w => by kernel_rfl
abbrev ty_P_int : TypeId := 92
theorem one_P_int : One Try.prog 92 := ⟨fun w => by kernel_rfl, fun w => by kernel_rfl⟩
abbrev zero_P_int : List Value := [.pointer none]
theorem new_P_int : ∀ w, (Instr.alloc 92 true (.tuple #[])).run Try.prog w = .ok (.pointer (some ⟨w.heap.size, 0, none⟩)) (w.alloc (.cells (zero_P_int).toArray 92)) := fun w => by kernel_rfl
theorem zv_P_int : ∀ w, (zeroValue 92).run Try.prog w = .ok (.pointer none) w := fun w => by kernel_rfl
abbrev ty_P_slices_xorshift : TypeId := 94
theorem one_P_slices_xorshift : One Try.prog 94 := ⟨fun w => by kernel_rfl, fun w => by kernel_rfl⟩
abbrev zero_P_slices_xorshift : List Value := [.pointer none]
theorem new_P_slices_xorshift : ∀ w, (Instr.alloc 94 true (.tuple #[])).run Try.prog w = .ok (.pointer (some ⟨w.heap.size, 0, none⟩)) (w.alloc (.cells (zero_P_slices_xorshift).toArray 94)) := fun w => by kernel_rfl
theorem zv_P_slices_xorshift : ∀ w, (zeroValue 94).run Try.prog w = .ok (.pointer none) w := fun w => by kernel_rfl
abbrev ty_P_uint8 : TypeId := 107
theorem one_P_uint8 : One Try.prog 107 := ⟨fun w => by kernel_rfl, fun w => by kernel_rfl⟩
abbrev zero_P_uint8 : List Value := [.pointer none]
theorem new_P_uint8 : ∀ w, (Instr.alloc 107 true (.tuple #[])).run Try.prog w = .ok (.pointer (some ⟨w.heap.size, 0, none⟩)) (w.alloc (.cells (zero_P_uint8).toArray 107)) := fun w => by kernel_rfl
theorem zv_P_uint8 : ∀ w, (zeroValue 107).run Try.prog w = .ok (.pointer none) w := fun w => by kernel_rfl
abbrev ty_unsafe_Pointer : TypeId := 112
theorem one_unsafe_Pointer : One Try.prog 112 := ⟨fun w => by kernel_rfl, fun w => by kernel_rfl⟩
abbrev zero_unsafe_Pointer : List Value := [.pointer none]
theorem new_unsafe_Pointer : ∀ w, (Instr.alloc 112 true (.tuple #[])).run Try.prog w = .ok (.pointer (some ⟨w.heap.size, 0, none⟩)) (w.alloc (.cells (zero_unsafe_Pointer).toArray 112)) := fun w => by kernel_rfl
theorem zv_unsafe_Pointer : ∀ w, (zeroValue 112).run Try.prog w = .ok (.pointer none) w := fun w => by kernel_rfl
theorem eqA_api_Event (x y : T_api_Event) (d : Nat) (w : World) : ∃ r, (Op.equalIn (d + 4) 32 (T_api_Event.v x) (T_api_Event.v y)).run Try.prog w = .ok r w ∧ (r = true ↔ x = y) := by
  refine eqA Try.underlying32 rfl (by kernel_rfl) ?_ (eqf_cons (a := (.string x.Stream)) (b := (.string y.Stream)) (by rfl) (by kernel_rfl) (by kernel_rfl) (eqS Try.underlying9 _ _) (eqf_cons (a := (.int .i64 x.Num)) (b := (.int .i64 y.Num)) (by rfl) (by kernel_rfl) (by kernel_rfl) (eqI Try.underlying3 _ _) (eqf_cons (a := (.int .i64 x.Global)) (b := (.int .i64 y.Global)) (by rfl) (by kernel_rfl) (by kernel_rfl) (eqI Try.underlying3 _ _) (eqf_cons (a := (.string x.Mark)) (b := (.string y.Mark)) (by rfl) (by kernel_rfl) (by kernel_rfl) (eqS Try.underlying9 _ _) (eqf_cons (a := (.string x.Data)) (b := (.string y.Data)) (by rfl) (by kernel_rfl) (by kernel_rfl) (eqS Try.underlying9 _ _) (eqf_nil))))))
  cases x; cases y; simp
theorem eql_api_Event (x y : T_api_Event) (o1 o2 : Operand) : ∃ r, (∀ w, (do eqGuard .eql 32 o1 o2 (T_api_Event.v x) (T_api_Event.v y); binOp .eql 32 (T_api_Event.v x) (T_api_Event.v y) : Sem Value).run Try.prog w = .ok (.bool r) w) ∧ (r = true ↔ x = y) := eqop (by kernel_rfl) (eqA_api_Event x y)
theorem neq_api_Event (x y : T_api_Event) (o1 o2 : Operand) : ∃ r, (∀ w, (do eqGuard .neq 32 o1 o2 (T_api_Event.v x) (T_api_Event.v y); binOp .neq 32 (T_api_Event.v x) (T_api_Event.v y) : Sem Value).run Try.prog w = .ok (.bool r) w) ∧ (r = true ↔ ¬ x = y) := neop (by kernel_rfl) (eqA_api_Event x y)
theorem eqA_events_mark (x y : T_events_mark) (d : Nat) (w : World) : ∃ r, (Op.equalIn (d + 4) 57 (T_events_mark.v x) (T_events_mark.v y)).run Try.prog w = .ok r w ∧ (r = true ↔ x = y) := by
  refine eqA Try.underlying57 rfl (by kernel_rfl) ?_ (eqf_cons (a := (.string x.stream)) (b := (.string y.stream)) (by rfl) (by kernel_rfl) (by kernel_rfl) (eqS Try.underlying9 _ _) (eqf_cons (a := (.string x.mark)) (b := (.string y.mark)) (by rfl) (by kernel_rfl) (by kernel_rfl) (eqS Try.underlying9 _ _) (eqf_nil)))
  cases x; cases y; simp
theorem eql_events_mark (x y : T_events_mark) (o1 o2 : Operand) : ∃ r, (∀ w, (do eqGuard .eql 57 o1 o2 (T_events_mark.v x) (T_events_mark.v y); binOp .eql 57 (T_events_mark.v x) (T_events_mark.v y) : Sem Value).run Try.prog w = .ok (.bool r) w) ∧ (r = true ↔ x = y) := eqop (by kernel_rfl) (eqA_events_mark x y)
theorem neq_events_mark (x y : T_events_mark) (o1 o2 : Operand) : ∃ r, (∀ w, (do eqGuard .neq 57 o1 o2 (T_events_mark.v x) (T_events_mark.v y); binOp .neq 57 (T_events_mark.v x) (T_events_mark.v y) : Sem Value).run Try.prog w = .ok (.bool r) w) ∧ (r = true ↔ ¬ x = y) := neop (by kernel_rfl) (eqA_events_mark x y)
end Go.Proofs.Ytlghlmoifjcgoaa.VG

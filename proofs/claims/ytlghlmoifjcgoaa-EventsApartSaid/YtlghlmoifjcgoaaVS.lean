/- The structures of the loaded program, as Lean's, and the functions' numbers, by program (gen.py); no condition. -/
import Derived.Test.YtlghlmoifjcgoaaProg
import Derived.Test.YtlghlmoifjcgoaaVBase
set_option linter.unusedVariables false
set_option linter.unusedSimpArgs false
namespace Go.Proofs.Ytlghlmoifjcgoaa.VG
open Go.VB Go.Proofs

structure T_api_Event where
  Stream : ByteArray
  Num : Int
  Global : Int
  Mark : ByteArray
  Data : ByteArray
abbrev T_api_Event.cells (x : T_api_Event) : _root_.List Value := [(.string x.Stream), (.int .i64 x.Num), (.int .i64 x.Global), (.string x.Mark), (.string x.Data)]
abbrev T_api_Event.v (x : T_api_Event) : Value := .agg (T_api_Event.cells x).toArray
structure T_events_mark where
  stream : ByteArray
  mark : ByteArray
abbrev T_events_mark.cells (x : T_events_mark) : _root_.List Value := [(.string x.stream), (.string x.mark)]
abbrev T_events_mark.v (x : T_events_mark) : Value := .agg (T_events_mark.cells x).toArray
structure T_s61 where

abbrev T_s61.cells (x : T_s61) : _root_.List Value := []
abbrev T_s61.v (x : T_s61) : Value := .agg (T_s61.cells x).toArray
structure T_runtime_boundsError where
  x : Int
  y : Int
  signed : Bool
  code : Int
abbrev T_runtime_boundsError.cells (x : T_runtime_boundsError) : _root_.List Value := [(.int .i64 x.x), (.int .i64 x.y), (.bool x.signed), (.int .u8 x.code)]
abbrev T_runtime_boundsError.v (x : T_runtime_boundsError) : Value := .agg (T_runtime_boundsError.cells x).toArray
structure T_runtime_errorAddressString where
  msg : ByteArray
  addr : Int
abbrev T_runtime_errorAddressString.cells (x : T_runtime_errorAddressString) : _root_.List Value := [(.string x.msg), (.int .u64 x.addr)]
abbrev T_runtime_errorAddressString.v (x : T_runtime_errorAddressString) : Value := .agg (T_runtime_errorAddressString.cells x).toArray
structure T_maps_unhashableTypeError where
  typ : Option Addr
abbrev T_maps_unhashableTypeError.cells (x : T_maps_unhashableTypeError) : _root_.List Value := [(.pointer x.typ)]
abbrev T_maps_unhashableTypeError.v (x : T_maps_unhashableTypeError) : Value := .agg (T_maps_unhashableTypeError.cells x).toArray
abbrev fn_ladinglaw12_EventsAppends : FuncId := 3
abbrev fn_ladinglaw12_EventsKept : FuncId := 4
abbrev fn_ladinglaw12_EventsParts : FuncId := 5
abbrev fn_ladinglaw12_EventsPages : FuncId := 6
abbrev fn_ladinglaw12_EventsMarks : FuncId := 7
abbrev fn_ladinglaw12_EventsApart : FuncId := 8
abbrev fn_ladinglaw12_EventsReads : FuncId := 9
abbrev fn_events_Append : FuncId := 10
abbrev fn_ladingref12_Append : FuncId := 11
abbrev fn_ladinglaw12_lives : FuncId := 12
abbrev fn_ladingref12_Same : FuncId := 13
abbrev fn_events_Check : FuncId := 14
abbrev fn_ladingref12_Check : FuncId := 15
abbrev fn_events_Read : FuncId := 16
abbrev fn_events_Marked : FuncId := 17
abbrev fn_events_Streams : FuncId := 18
abbrev fn_ladingref12_Read : FuncId := 19
abbrev fn_events_All : FuncId := 20
abbrev fn_ladingref12_All : FuncId := 21
abbrev fn_ladingref12_Marked : FuncId := 22
abbrev fn_ladingref12_Streams : FuncId := 23
abbrev fn_ladingref05_Same : FuncId := 24
abbrev fn_slices_Collect_api_Event : FuncId := 25
abbrev fn_events_of : FuncId := 26
abbrev fn_slices_Clone_api_Event_api_Event : FuncId := 27
abbrev fn_events_long : FuncId := 28
abbrev fn_slices_ContainsFunc_string_string : FuncId := 29
abbrev fn_ladingref12_Of : FuncId := 30
abbrev fn_ladingref12_last : FuncId := 31
abbrev fn_ladingref12_twice : FuncId := 32
abbrev fn_events_part : FuncId := 33
abbrev fn_slices_Sorted_string : FuncId := 34
abbrev fn_maps_Keys_map_string_struct_string_struct : FuncId := 35
abbrev fn_ladingref12_some : FuncId := 36
abbrev fn_slices_AppendSeq_api_Event_api_Event : FuncId := 37
abbrev fn_events_of_1 : FuncId := 38
abbrev fn_slices_IndexFunc_string_string : FuncId := 39
abbrev fn_slices_Collect_string : FuncId := 40
abbrev fn_slices_Sort_string_string : FuncId := 41
abbrev fn_maps_Keys_map_string_struct_string_struct_1 : FuncId := 42
abbrev fn_slices_AppendSeq_string_string : FuncId := 43
abbrev fn_slices_pdqsortOrdered_string : FuncId := 44
abbrev fn_bits_Len : FuncId := 45
abbrev fn_slices_insertionSortOrdered_string : FuncId := 46
abbrev fn_slices_heapSortOrdered_string : FuncId := 47
abbrev fn_slices_breakPatternsOrdered_string : FuncId := 48
abbrev fn_slices_choosePivotOrdered_string : FuncId := 49
abbrev fn_slices_reverseRangeOrdered_string : FuncId := 50
abbrev fn_slices_partialInsertionSortOrdered_string : FuncId := 51
abbrev fn_cmp_Less_string : FuncId := 52
abbrev fn_slices_partitionEqualOrdered_string : FuncId := 53
abbrev fn_slices_partitionOrdered_string : FuncId := 54
abbrev fn_bits_Len32 : FuncId := 55
abbrev fn_bits_Len64 : FuncId := 56
abbrev fn_slices_siftDownOrdered_string : FuncId := 57
abbrev fn_slices_nextPowerOfTwo : FuncId := 58
abbrev fn_slices_xorshift_Next : FuncId := 59
abbrev fn_slices_medianAdjacentOrdered_string : FuncId := 60
abbrev fn_slices_medianOrdered_string : FuncId := 61
abbrev fn_cmp_isNaN_string : FuncId := 62
abbrev fn_slices_order2Ordered_string : FuncId := 63
abbrev fn_runtime_boundsError_Error : FuncId := 64
abbrev fn_runtime_boundsError_RuntimeError : FuncId := 65
abbrev fn_runtime_errorString_Error : FuncId := 66
abbrev fn_runtime_errorString_RuntimeError : FuncId := 67
abbrev fn_runtime_plainError_Error : FuncId := 68
abbrev fn_runtime_plainError_RuntimeError : FuncId := 69
abbrev fn_runtime_errorAddressString_Error : FuncId := 70
abbrev fn_runtime_errorAddressString_RuntimeError : FuncId := 71
abbrev fn_runtime_TypeAssertionError_Error : FuncId := 72
abbrev fn_runtime_TypeAssertionError_RuntimeError : FuncId := 73
abbrev fn_runtime_PanicNilError_Error : FuncId := 74
abbrev fn_runtime_PanicNilError_RuntimeError : FuncId := 75
abbrev fn_abi_Type_Align : FuncId := 76
abbrev fn_maps_unhashableTypeError_Error : FuncId := 77
abbrev fn_maps_unhashableTypeError_RuntimeError : FuncId := 78
abbrev fn_abi_Kind_String : FuncId := 79
theorem ent3 : Ent Try.prog 3 := Ent.of Try.func3 (by rfl) (by rfl)
theorem ent4 : Ent Try.prog 4 := Ent.of Try.func4 (by rfl) (by rfl)
theorem ent5 : Ent Try.prog 5 := Ent.of Try.func5 (by rfl) (by rfl)
theorem ent6 : Ent Try.prog 6 := Ent.of Try.func6 (by rfl) (by rfl)
theorem ent7 : Ent Try.prog 7 := Ent.of Try.func7 (by rfl) (by rfl)
theorem ent8 : Ent Try.prog 8 := Ent.of Try.func8 (by rfl) (by rfl)
theorem ent9 : Ent Try.prog 9 := Ent.of Try.func9 (by rfl) (by rfl)
theorem ent10 : Ent Try.prog 10 := Ent.of Try.func10 (by rfl) (by rfl)
theorem ent11 : Ent Try.prog 11 := Ent.of Try.func11 (by rfl) (by rfl)
theorem ent12 : Ent Try.prog 12 := Ent.of Try.func12 (by rfl) (by rfl)
theorem ent13 : Ent Try.prog 13 := Ent.of Try.func13 (by rfl) (by rfl)
theorem ent14 : Ent Try.prog 14 := Ent.of Try.func14 (by rfl) (by rfl)
theorem ent15 : Ent Try.prog 15 := Ent.of Try.func15 (by rfl) (by rfl)
theorem ent16 : Ent Try.prog 16 := Ent.of Try.func16 (by rfl) (by rfl)
theorem ent17 : Ent Try.prog 17 := Ent.of Try.func17 (by rfl) (by rfl)
theorem ent18 : Ent Try.prog 18 := Ent.of Try.func18 (by rfl) (by rfl)
theorem ent19 : Ent Try.prog 19 := Ent.of Try.func19 (by rfl) (by rfl)
theorem ent20 : Ent Try.prog 20 := Ent.of Try.func20 (by rfl) (by rfl)
theorem ent21 : Ent Try.prog 21 := Ent.of Try.func21 (by rfl) (by rfl)
theorem ent22 : Ent Try.prog 22 := Ent.of Try.func22 (by rfl) (by rfl)
theorem ent23 : Ent Try.prog 23 := Ent.of Try.func23 (by rfl) (by rfl)
theorem ent24 : Ent Try.prog 24 := Ent.of Try.func24 (by rfl) (by rfl)
theorem ent25 : Ent Try.prog 25 := Ent.of Try.func25 (by rfl) (by rfl)
theorem ent26 : Ent Try.prog 26 := Ent.of Try.func26 (by rfl) (by rfl)
theorem ent27 : Ent Try.prog 27 := Ent.of Try.func27 (by rfl) (by rfl)
theorem ent28 : Ent Try.prog 28 := Ent.of Try.func28 (by rfl) (by rfl)
theorem ent29 : Ent Try.prog 29 := Ent.of Try.func29 (by rfl) (by rfl)
theorem ent30 : Ent Try.prog 30 := Ent.of Try.func30 (by rfl) (by rfl)
theorem ent31 : Ent Try.prog 31 := Ent.of Try.func31 (by rfl) (by rfl)
theorem ent32 : Ent Try.prog 32 := Ent.of Try.func32 (by rfl) (by rfl)
theorem ent33 : Ent Try.prog 33 := Ent.of Try.func33 (by rfl) (by rfl)
theorem ent34 : Ent Try.prog 34 := Ent.of Try.func34 (by rfl) (by rfl)
theorem ent35 : Ent Try.prog 35 := Ent.of Try.func35 (by rfl) (by rfl)
theorem ent36 : Ent Try.prog 36 := Ent.of Try.func36 (by rfl) (by rfl)
theorem ent37 : Ent Try.prog 37 := Ent.of Try.func37 (by rfl) (by rfl)
theorem ent38 : Ent Try.prog 38 := Ent.of Try.func38 (by rfl) (by rfl)
theorem ent39 : Ent Try.prog 39 := Ent.of Try.func39 (by rfl) (by rfl)
theorem ent40 : Ent Try.prog 40 := Ent.of Try.func40 (by rfl) (by rfl)
theorem ent41 : Ent Try.prog 41 := Ent.of Try.func41 (by rfl) (by rfl)
theorem ent42 : Ent Try.prog 42 := Ent.of Try.func42 (by rfl) (by rfl)
theorem ent43 : Ent Try.prog 43 := Ent.of Try.func43 (by rfl) (by rfl)
theorem ent44 : Ent Try.prog 44 := Ent.of Try.func44 (by rfl) (by rfl)
theorem ent45 : Ent Try.prog 45 := Ent.of Try.func45 (by rfl) (by rfl)
theorem ent46 : Ent Try.prog 46 := Ent.of Try.func46 (by rfl) (by rfl)
theorem ent47 : Ent Try.prog 47 := Ent.of Try.func47 (by rfl) (by rfl)
theorem ent48 : Ent Try.prog 48 := Ent.of Try.func48 (by rfl) (by rfl)
theorem ent49 : Ent Try.prog 49 := Ent.of Try.func49 (by rfl) (by rfl)
theorem ent50 : Ent Try.prog 50 := Ent.of Try.func50 (by rfl) (by rfl)
theorem ent51 : Ent Try.prog 51 := Ent.of Try.func51 (by rfl) (by rfl)
theorem ent52 : Ent Try.prog 52 := Ent.of Try.func52 (by rfl) (by rfl)
theorem ent53 : Ent Try.prog 53 := Ent.of Try.func53 (by rfl) (by rfl)
theorem ent54 : Ent Try.prog 54 := Ent.of Try.func54 (by rfl) (by rfl)
theorem ent55 : Ent Try.prog 55 := Ent.of Try.func55 (by rfl) (by rfl)
theorem ent56 : Ent Try.prog 56 := Ent.of Try.func56 (by rfl) (by rfl)
theorem ent57 : Ent Try.prog 57 := Ent.of Try.func57 (by rfl) (by rfl)
theorem ent58 : Ent Try.prog 58 := Ent.of Try.func58 (by rfl) (by rfl)
theorem ent59 : Ent Try.prog 59 := Ent.of Try.func59 (by rfl) (by rfl)
theorem ent60 : Ent Try.prog 60 := Ent.of Try.func60 (by rfl) (by rfl)
theorem ent61 : Ent Try.prog 61 := Ent.of Try.func61 (by rfl) (by rfl)
theorem ent62 : Ent Try.prog 62 := Ent.of Try.func62 (by rfl) (by rfl)
theorem ent63 : Ent Try.prog 63 := Ent.of Try.func63 (by rfl) (by rfl)
end Go.Proofs.Ytlghlmoifjcgoaa.VG

/- Made by program: names for the numbers of functions and types, and closed facts on them. -/
import Derived.Test.YtaaihodhhacapaaRules2
import Derived.Test.YtaaihodhhacapaaProg
import Derived.KernelRfl
namespace Go.Proofs.Ytaaihodhhacapaa
open Go
abbrev t_func : Nat := 1
theorem co_func : Try.prog.cellsOf 1 = 1 := by kernel_rfl
theorem sc_func : isSc Try.prog 1 = true := by kernel_rfl
abbrev t_int64 : Nat := 2
theorem co_int64 : Try.prog.cellsOf 2 = 1 := by kernel_rfl
theorem sc_int64 : isSc Try.prog 2 = true := by kernel_rfl
theorem zo_int64 : zeroOf Try.prog 2 = some (.int .i64 0) := by kernel_rfl
theorem un_int64 : Try.prog.underlying 2 = some (.int .i64) := by kernel_rfl
abbrev t_int : Nat := 3
theorem co_int : Try.prog.cellsOf 3 = 1 := by kernel_rfl
theorem sc_int : isSc Try.prog 3 = true := by kernel_rfl
theorem zo_int : zeroOf Try.prog 3 = some (.int .i64 0) := by kernel_rfl
theorem un_int : Try.prog.underlying 3 = some (.int .i64) := by kernel_rfl
abbrev t_bool : Nat := 4
theorem co_bool : Try.prog.cellsOf 4 = 1 := by kernel_rfl
theorem sc_bool : isSc Try.prog 4 = true := by kernel_rfl
theorem zo_bool : zeroOf Try.prog 4 = some (.bool false) := by kernel_rfl
theorem un_bool : Try.prog.underlying 4 = some .bool := by kernel_rfl
abbrev t_uint8 : Nat := 5
theorem co_uint8 : Try.prog.cellsOf 5 = 1 := by kernel_rfl
theorem sc_uint8 : isSc Try.prog 5 = true := by kernel_rfl
theorem zo_uint8 : zeroOf Try.prog 5 = some (.int .u8 0) := by kernel_rfl
theorem un_uint8 : Try.prog.underlying 5 = some (.int .u8) := by kernel_rfl
abbrev t_string : Nat := 9
theorem co_string : Try.prog.cellsOf 9 = 1 := by kernel_rfl
theorem sc_string : isSc Try.prog 9 = true := by kernel_rfl
theorem zo_string : zeroOf Try.prog 9 = some (.string ⟨#[]⟩) := by kernel_rfl
theorem un_string : Try.prog.underlying 9 = some .string := by kernel_rfl
abbrev t_uintptr : Nat := 12
theorem co_uintptr : Try.prog.cellsOf 12 = 1 := by kernel_rfl
theorem sc_uintptr : isSc Try.prog 12 = true := by kernel_rfl
theorem zo_uintptr : zeroOf Try.prog 12 = some (.int .u64 0) := by kernel_rfl
theorem un_uintptr : Try.prog.underlying 12 = some (.int .u64) := by kernel_rfl
abbrev t_int32 : Nat := 21
theorem co_int32 : Try.prog.cellsOf 21 = 1 := by kernel_rfl
theorem sc_int32 : isSc Try.prog 21 = true := by kernel_rfl
theorem zo_int32 : zeroOf Try.prog 21 = some (.int .i32 0) := by kernel_rfl
theorem un_int32 : Try.prog.underlying 21 = some (.int .i32) := by kernel_rfl
abbrev t_SlTerm : Nat := 22
theorem co_SlTerm : Try.prog.cellsOf 22 = 1 := by kernel_rfl
theorem sc_SlTerm : isSc Try.prog 22 = true := by kernel_rfl
theorem zo_SlTerm : zeroOf Try.prog 22 = some (.slice none 0 0) := by kernel_rfl
theorem mk_SlTerm : mkOf Try.prog 22 = some (24, 4, 56, (.agg #[(.int .i64 0), (.int .i64 0), (.string ⟨#[]⟩), (.slice none 0 0)])) := by kernel_rfl
theorem sl_SlTerm : sliceOf Try.prog 22 = some (24, 4) := by kernel_rfl
abbrev t_lTerm : Nat := 24
theorem co_lTerm : Try.prog.cellsOf 24 = 4 := by kernel_rfl
theorem fl_lTerm : flds Try.prog 24 = some [(0, 3), (1, 3), (2, 9), (3, 22)] := by kernel_rfl
theorem ag_lTerm : aggN Try.prog 24 = some 4 := by kernel_rfl
theorem zo_lTerm : zeroOf Try.prog 24 = some (.agg #[(.int .i64 0), (.int .i64 0), (.string ⟨#[]⟩), (.slice none 0 0)]) := by kernel_rfl
theorem fo_lTerm_0 : fieldOff Try.prog 24 0 = some 0 := by kernel_rfl
theorem fo_lTerm_1 : fieldOff Try.prog 24 1 = some 1 := by kernel_rfl
theorem fo_lTerm_2 : fieldOff Try.prog 24 2 = some 2 := by kernel_rfl
theorem fo_lTerm_3 : fieldOff Try.prog 24 3 = some 3 := by kernel_rfl
abbrev t_lClause : Nat := 26
theorem co_lClause : Try.prog.cellsOf 26 = 5 := by kernel_rfl
theorem fl_lClause : flds Try.prog 26 = some [(0, 24), (4, 22)] := by kernel_rfl
theorem ag_lClause : aggN Try.prog 26 = some 5 := by kernel_rfl
theorem zo_lClause : zeroOf Try.prog 26 = some (.agg #[(.int .i64 0), (.int .i64 0), (.string ⟨#[]⟩), (.slice none 0 0), (.slice none 0 0)]) := by kernel_rfl
theorem fo_lClause_0 : fieldOff Try.prog 26 0 = some 0 := by kernel_rfl
theorem fo_lClause_1 : fieldOff Try.prog 26 1 = some 4 := by kernel_rfl
abbrev t_func_lClause_int_int : Nat := 27
theorem co_func_lClause_int_int : Try.prog.cellsOf 27 = 1 := by kernel_rfl
theorem sc_func_lClause_int_int : isSc Try.prog 27 = true := by kernel_rfl
abbrev t_SiTerm : Nat := 28
theorem co_SiTerm : Try.prog.cellsOf 28 = 1 := by kernel_rfl
theorem sc_SiTerm : isSc Try.prog 28 = true := by kernel_rfl
theorem zo_SiTerm : zeroOf Try.prog 28 = some (.slice none 0 0) := by kernel_rfl
theorem mk_SiTerm : mkOf Try.prog 28 = some (30, 4, 56, (.agg #[(.int .i64 0), (.int .i64 0), (.string ⟨#[]⟩), (.slice none 0 0)])) := by kernel_rfl
theorem sl_SiTerm : sliceOf Try.prog 28 = some (30, 4) := by kernel_rfl
abbrev t_iTerm : Nat := 30
theorem co_iTerm : Try.prog.cellsOf 30 = 4 := by kernel_rfl
theorem fl_iTerm : flds Try.prog 30 = some [(0, 3), (1, 3), (2, 9), (3, 28)] := by kernel_rfl
theorem ag_iTerm : aggN Try.prog 30 = some 4 := by kernel_rfl
theorem zo_iTerm : zeroOf Try.prog 30 = some (.agg #[(.int .i64 0), (.int .i64 0), (.string ⟨#[]⟩), (.slice none 0 0)]) := by kernel_rfl
theorem fo_iTerm_0 : fieldOff Try.prog 30 0 = some 0 := by kernel_rfl
theorem fo_iTerm_1 : fieldOff Try.prog 30 1 = some 1 := by kernel_rfl
theorem fo_iTerm_2 : fieldOff Try.prog 30 2 = some 2 := by kernel_rfl
theorem fo_iTerm_3 : fieldOff Try.prog 30 3 = some 3 := by kernel_rfl
abbrev t_iClause : Nat := 32
theorem co_iClause : Try.prog.cellsOf 32 = 5 := by kernel_rfl
theorem fl_iClause : flds Try.prog 32 = some [(0, 30), (4, 28)] := by kernel_rfl
theorem ag_iClause : aggN Try.prog 32 = some 5 := by kernel_rfl
theorem zo_iClause : zeroOf Try.prog 32 = some (.agg #[(.int .i64 0), (.int .i64 0), (.string ⟨#[]⟩), (.slice none 0 0), (.slice none 0 0)]) := by kernel_rfl
theorem fo_iClause_0 : fieldOff Try.prog 32 0 = some 0 := by kernel_rfl
theorem fo_iClause_1 : fieldOff Try.prog 32 1 = some 4 := by kernel_rfl
abbrev t_iClause_bool : Nat := 33
abbrev t_func_iClause_iClause_iClause_bool : Nat := 34
theorem co_func_iClause_iClause_iClause_bool : Try.prog.cellsOf 34 = 1 := by kernel_rfl
theorem sc_func_iClause_iClause_iClause_bool : isSc Try.prog 34 = true := by kernel_rfl
abbrev t_func_lClause_iClause : Nat := 35
theorem co_func_lClause_iClause : Try.prog.cellsOf 35 = 1 := by kernel_rfl
theorem sc_func_lClause_iClause : isSc Try.prog 35 = true := by kernel_rfl
abbrev t_func_iClause_iClause_bool : Nat := 36
theorem co_func_iClause_iClause_bool : Try.prog.cellsOf 36 = 1 := by kernel_rfl
theorem sc_func_iClause_iClause_bool : isSc Try.prog 36 = true := by kernel_rfl
abbrev t_func_iClause_int_int : Nat := 37
theorem co_func_iClause_int_int : Try.prog.cellsOf 37 = 1 := by kernel_rfl
theorem sc_func_iClause_int_int : isSc Try.prog 37 = true := by kernel_rfl
abbrev t_func_lClause_lClause_bool : Nat := 38
theorem co_func_lClause_lClause_bool : Try.prog.cellsOf 38 = 1 := by kernel_rfl
theorem sc_func_lClause_lClause_bool : isSc Try.prog 38 = true := by kernel_rfl
abbrev t_func_lTerm_int_int : Nat := 39
theorem co_func_lTerm_int_int : Try.prog.cellsOf 39 = 1 := by kernel_rfl
theorem sc_func_lTerm_int_int : isSc Try.prog 39 = true := by kernel_rfl
abbrev t_func_lTerm_int_int_40 : Nat := 40
theorem co_func_lTerm_int_int_40 : Try.prog.cellsOf 40 = 1 := by kernel_rfl
theorem sc_func_lTerm_int_int_40 : isSc Try.prog 40 = true := by kernel_rfl
abbrev t_func_iClause_bool : Nat := 41
theorem co_func_iClause_bool : Try.prog.cellsOf 41 = 1 := by kernel_rfl
theorem sc_func_iClause_bool : isSc Try.prog 41 = true := by kernel_rfl
abbrev t_iClause_bool_bool : Nat := 42
abbrev t_func_iClause_iClause_iClause_bool_bool : Nat := 43
theorem co_func_iClause_iClause_iClause_bool_bool : Try.prog.cellsOf 43 = 1 := by kernel_rfl
theorem sc_func_iClause_iClause_iClause_bool_bool : isSc Try.prog 43 = true := by kernel_rfl
abbrev t_func_iClause_iClause : Nat := 44
theorem co_func_iClause_iClause : Try.prog.cellsOf 44 = 1 := by kernel_rfl
theorem sc_func_iClause_iClause : isSc Try.prog 44 = true := by kernel_rfl
abbrev t_func_lTerm_iTerm : Nat := 45
theorem co_func_lTerm_iTerm : Try.prog.cellsOf 45 = 1 := by kernel_rfl
theorem sc_func_lTerm_iTerm : isSc Try.prog 45 = true := by kernel_rfl
abbrev t_func_lTerm_iTerm_46 : Nat := 46
theorem co_func_lTerm_iTerm_46 : Try.prog.cellsOf 46 = 1 := by kernel_rfl
theorem sc_func_lTerm_iTerm_46 : isSc Try.prog 46 = true := by kernel_rfl
abbrev t_func_iTerm_iTerm_bool : Nat := 47
theorem co_func_iTerm_iTerm_bool : Try.prog.cellsOf 47 = 1 := by kernel_rfl
theorem sc_func_iTerm_iTerm_bool : isSc Try.prog 47 = true := by kernel_rfl
abbrev t_func_iTerm_iTerm_bool_48 : Nat := 48
theorem co_func_iTerm_iTerm_bool_48 : Try.prog.cellsOf 48 = 1 := by kernel_rfl
theorem sc_func_iTerm_iTerm_bool_48 : isSc Try.prog 48 = true := by kernel_rfl
abbrev t_func_iTerm_int_int : Nat := 49
theorem co_func_iTerm_int_int : Try.prog.cellsOf 49 = 1 := by kernel_rfl
theorem sc_func_iTerm_int_int : isSc Try.prog 49 = true := by kernel_rfl
abbrev t_func_iTerm_int_int_50 : Nat := 50
theorem co_func_iTerm_int_int_50 : Try.prog.cellsOf 50 = 1 := by kernel_rfl
theorem sc_func_iTerm_int_int_50 : isSc Try.prog 50 = true := by kernel_rfl
abbrev t_func_iTerm_bool : Nat := 51
theorem co_func_iTerm_bool : Try.prog.cellsOf 51 = 1 := by kernel_rfl
theorem sc_func_iTerm_bool : isSc Try.prog 51 = true := by kernel_rfl
abbrev t_func_iClause_int_iClause : Nat := 52
theorem co_func_iClause_int_iClause : Try.prog.cellsOf 52 = 1 := by kernel_rfl
theorem sc_func_iClause_int_iClause : isSc Try.prog 52 = true := by kernel_rfl
abbrev t_func_iTerm_iTerm_iTerm_bool : Nat := 53
theorem co_func_iTerm_iTerm_iTerm_bool : Try.prog.cellsOf 53 = 1 := by kernel_rfl
theorem sc_func_iTerm_iTerm_iTerm_bool : isSc Try.prog 53 = true := by kernel_rfl
abbrev t_iTerm_bool : Nat := 54
abbrev t_func_iTerm_iTerm_iTerm_bool_55 : Nat := 55
theorem co_func_iTerm_iTerm_iTerm_bool_55 : Try.prog.cellsOf 55 = 1 := by kernel_rfl
theorem sc_func_iTerm_iTerm_iTerm_bool_55 : isSc Try.prog 55 = true := by kernel_rfl
abbrev t_func_iTerm_iTerm : Nat := 56
theorem co_func_iTerm_iTerm : Try.prog.cellsOf 56 = 1 := by kernel_rfl
theorem sc_func_iTerm_iTerm : isSc Try.prog 56 = true := by kernel_rfl
abbrev t_func_iTerm_iTerm_57 : Nat := 57
theorem co_func_iTerm_iTerm_57 : Try.prog.cellsOf 57 = 1 := by kernel_rfl
theorem sc_func_iTerm_iTerm_57 : isSc Try.prog 57 = true := by kernel_rfl
abbrev t_func_iTerm_bool_58 : Nat := 58
theorem co_func_iTerm_bool_58 : Try.prog.cellsOf 58 = 1 := by kernel_rfl
theorem sc_func_iTerm_bool_58 : isSc Try.prog 58 = true := by kernel_rfl
abbrev t_Pistore : Nat := 59
theorem co_Pistore : Try.prog.cellsOf 59 = 1 := by kernel_rfl
theorem sc_Pistore : isSc Try.prog 59 = true := by kernel_rfl
theorem zo_Pistore : zeroOf Try.prog 59 = some (.pointer none) := by kernel_rfl
abbrev t_func_istore : Nat := 60
theorem co_func_istore : Try.prog.cellsOf 60 = 1 := by kernel_rfl
theorem sc_func_istore : isSc Try.prog 60 = true := by kernel_rfl
abbrev t_func_int_iTerm : Nat := 61
theorem co_func_int_iTerm : Try.prog.cellsOf 61 = 1 := by kernel_rfl
theorem sc_func_int_iTerm : isSc Try.prog 61 = true := by kernel_rfl
abbrev t_func_iTerm_func_int_iTerm_iTerm : Nat := 62
theorem co_func_iTerm_func_int_iTerm_iTerm : Try.prog.cellsOf 62 = 1 := by kernel_rfl
theorem sc_func_iTerm_func_int_iTerm_iTerm : isSc Try.prog 62 = true := by kernel_rfl
abbrev t_func_iTerm_iTerm_bool_63 : Nat := 63
theorem co_func_iTerm_iTerm_bool_63 : Try.prog.cellsOf 63 = 1 := by kernel_rfl
theorem sc_func_iTerm_iTerm_bool_63 : isSc Try.prog 63 = true := by kernel_rfl
abbrev t_func_int_string : Nat := 64
theorem co_func_int_string : Try.prog.cellsOf 64 = 1 := by kernel_rfl
theorem sc_func_int_string : isSc Try.prog 64 = true := by kernel_rfl
abbrev t_func_iTerm_int_bool : Nat := 65
theorem co_func_iTerm_int_bool : Try.prog.cellsOf 65 = 1 := by kernel_rfl
theorem sc_func_iTerm_int_bool : isSc Try.prog 65 = true := by kernel_rfl
abbrev t_func_string_bool : Nat := 66
theorem co_func_string_bool : Try.prog.cellsOf 66 = 1 := by kernel_rfl
theorem sc_func_string_bool : isSc Try.prog 66 = true := by kernel_rfl
abbrev t_func_string_int_bool : Nat := 67
theorem co_func_string_int_bool : Try.prog.cellsOf 67 = 1 := by kernel_rfl
theorem sc_func_string_int_bool : isSc Try.prog 67 = true := by kernel_rfl
abbrev t_func_string_int : Nat := 68
theorem co_func_string_int : Try.prog.cellsOf 68 = 1 := by kernel_rfl
theorem sc_func_string_int : isSc Try.prog 68 = true := by kernel_rfl
abbrev t_func_iTerm_int_iTerm : Nat := 69
theorem co_func_iTerm_int_iTerm : Try.prog.cellsOf 69 = 1 := by kernel_rfl
theorem sc_func_iTerm_int_iTerm : isSc Try.prog 69 = true := by kernel_rfl
abbrev t_func_iTerm_iTerm_iTerm : Nat := 70
theorem co_func_iTerm_iTerm_iTerm : Try.prog.cellsOf 70 = 1 := by kernel_rfl
theorem sc_func_iTerm_iTerm_iTerm : isSc Try.prog 70 = true := by kernel_rfl
abbrev t_func_int_iTerm_iTerm_bool : Nat := 71
theorem co_func_int_iTerm_iTerm_bool : Try.prog.cellsOf 71 = 1 := by kernel_rfl
theorem sc_func_int_iTerm_iTerm_bool : isSc Try.prog 71 = true := by kernel_rfl
abbrev t_iTerm_int : Nat := 72
abbrev t_func_iTerm_iTerm_int_iTerm_int : Nat := 73
theorem co_func_iTerm_iTerm_int_iTerm_int : Try.prog.cellsOf 73 = 1 := by kernel_rfl
theorem sc_func_iTerm_iTerm_int_iTerm_int : isSc Try.prog 73 = true := by kernel_rfl
abbrev t_Sint : Nat := 74
theorem co_Sint : Try.prog.cellsOf 74 = 1 := by kernel_rfl
theorem sc_Sint : isSc Try.prog 74 = true := by kernel_rfl
theorem zo_Sint : zeroOf Try.prog 74 = some (.slice none 0 0) := by kernel_rfl
theorem mk_Sint : mkOf Try.prog 74 = some (3, 1, 8, (.int .i64 0)) := by kernel_rfl
theorem sl_Sint : sliceOf Try.prog 74 = some (3, 1) := by kernel_rfl
abbrev t_func_int_iTerm_int : Nat := 75
theorem co_func_int_iTerm_int : Try.prog.cellsOf 75 = 1 := by kernel_rfl
theorem sc_func_int_iTerm_int : isSc Try.prog 75 = true := by kernel_rfl
abbrev t_func_iTerm_int_iTerm_76 : Nat := 76
theorem co_func_iTerm_int_iTerm_76 : Try.prog.cellsOf 76 = 1 := by kernel_rfl
theorem sc_func_iTerm_int_iTerm_76 : isSc Try.prog 76 = true := by kernel_rfl
abbrev t_func_iTerm_int_int_bool : Nat := 77
theorem co_func_iTerm_int_int_bool : Try.prog.cellsOf 77 = 1 := by kernel_rfl
theorem sc_func_iTerm_int_int_bool : isSc Try.prog 77 = true := by kernel_rfl
abbrev t_Pint : Nat := 78
theorem co_Pint : Try.prog.cellsOf 78 = 1 := by kernel_rfl
theorem sc_Pint : isSc Try.prog 78 = true := by kernel_rfl
theorem zo_Pint : zeroOf Try.prog 78 = some (.pointer none) := by kernel_rfl
abbrev t_func_iTerm_func_iTerm_bool_bool : Nat := 79
theorem co_func_iTerm_func_iTerm_bool_bool : Try.prog.cellsOf 79 = 1 := by kernel_rfl
theorem sc_func_iTerm_func_iTerm_bool_bool : isSc Try.prog 79 = true := by kernel_rfl
abbrev t_Mint_iTerm : Nat := 80
theorem co_Mint_iTerm : Try.prog.cellsOf 80 = 1 := by kernel_rfl
theorem sc_Mint_iTerm : isSc Try.prog 80 = true := by kernel_rfl
theorem zo_Mint_iTerm : zeroOf Try.prog 80 = some (.map none) := by kernel_rfl
theorem un_Mint_iTerm : Try.prog.underlying 80 = some (.map 3 30) := by kernel_rfl
abbrev t_istore : Nat := 82
theorem co_istore : Try.prog.cellsOf 82 = 2 := by kernel_rfl
theorem fl_istore : flds Try.prog 82 = some [(0, 80), (1, 74)] := by kernel_rfl
theorem ag_istore : aggN Try.prog 82 = some 2 := by kernel_rfl
theorem zo_istore : zeroOf Try.prog 82 = some (.agg #[(.map none), (.slice none 0 0)]) := by kernel_rfl
theorem fo_istore_0 : fieldOff Try.prog 82 0 = some 0 := by kernel_rfl
theorem fo_istore_1 : fieldOff Try.prog 82 1 = some 1 := by kernel_rfl
abbrev t_func_int_iTerm_bool : Nat := 83
theorem co_func_int_iTerm_bool : Try.prog.cellsOf 83 = 1 := by kernel_rfl
theorem sc_func_int_iTerm_bool : isSc Try.prog 83 = true := by kernel_rfl
abbrev t_func_iTerm_int_int_iTerm_bool : Nat := 84
theorem co_func_iTerm_int_int_iTerm_bool : Try.prog.cellsOf 84 = 1 := by kernel_rfl
theorem sc_func_iTerm_int_int_iTerm_bool : isSc Try.prog 84 = true := by kernel_rfl
abbrev t_Suint8 : Nat := 85
theorem co_Suint8 : Try.prog.cellsOf 85 = 1 := by kernel_rfl
theorem sc_Suint8 : isSc Try.prog 85 = true := by kernel_rfl
theorem zo_Suint8 : zeroOf Try.prog 85 = some (.slice none 0 0) := by kernel_rfl
theorem mk_Suint8 : mkOf Try.prog 85 = some (5, 1, 1, (.int .u8 0)) := by kernel_rfl
theorem sl_Suint8 : sliceOf Try.prog 85 = some (5, 1) := by kernel_rfl
abbrev t_func_int_int_int_bool : Nat := 86
theorem co_func_int_int_int_bool : Try.prog.cellsOf 86 = 1 := by kernel_rfl
theorem sc_func_int_int_int_bool : isSc Try.prog 86 = true := by kernel_rfl
abbrev t_int_bool : Nat := 87
abbrev t_func_string_int_bool_88 : Nat := 88
theorem co_func_string_int_bool_88 : Try.prog.cellsOf 88 = 1 := by kernel_rfl
theorem sc_func_string_int_bool_88 : isSc Try.prog 88 = true := by kernel_rfl
abbrev t_func_iTerm_func_iTerm_bool_int : Nat := 89
theorem co_func_iTerm_func_iTerm_bool_int : Try.prog.cellsOf 89 = 1 := by kernel_rfl
theorem sc_func_iTerm_func_iTerm_bool_int : isSc Try.prog 89 = true := by kernel_rfl
abbrev t_func_int_iTerm_map_int_bool_bool : Nat := 90
theorem co_func_int_iTerm_map_int_bool_bool : Try.prog.cellsOf 90 = 1 := by kernel_rfl
theorem sc_func_int_iTerm_map_int_bool_bool : isSc Try.prog 90 = true := by kernel_rfl
abbrev t_Mint_bool : Nat := 91
theorem co_Mint_bool : Try.prog.cellsOf 91 = 1 := by kernel_rfl
theorem sc_Mint_bool : isSc Try.prog 91 = true := by kernel_rfl
theorem zo_Mint_bool : zeroOf Try.prog 91 = some (.map none) := by kernel_rfl
theorem un_Mint_bool : Try.prog.underlying 91 = some (.map 3 4) := by kernel_rfl
abbrev t_func_iTerm_int : Nat := 92
theorem co_func_iTerm_int : Try.prog.cellsOf 92 = 1 := by kernel_rfl
theorem sc_func_iTerm_int : isSc Try.prog 92 = true := by kernel_rfl
abbrev t_func_int_int_int : Nat := 93
theorem co_func_int_int_int : Try.prog.cellsOf 93 = 1 := by kernel_rfl
theorem sc_func_int_int_int : isSc Try.prog 93 = true := by kernel_rfl
abbrev t_func_string_string_bool : Nat := 94
theorem co_func_string_string_bool : Try.prog.cellsOf 94 = 1 := by kernel_rfl
theorem sc_func_string_string_bool : isSc Try.prog 94 = true := by kernel_rfl
abbrev t_Sstring : Nat := 95
theorem co_Sstring : Try.prog.cellsOf 95 = 1 := by kernel_rfl
theorem sc_Sstring : isSc Try.prog 95 = true := by kernel_rfl
theorem zo_Sstring : zeroOf Try.prog 95 = some (.slice none 0 0) := by kernel_rfl
theorem mk_Sstring : mkOf Try.prog 95 = some (9, 1, 16, (.string ⟨#[]⟩)) := by kernel_rfl
theorem sl_Sstring : sliceOf Try.prog 95 = some (9, 1) := by kernel_rfl
abbrev t_func_string : Nat := 96
theorem co_func_string : Try.prog.cellsOf 96 = 1 := by kernel_rfl
theorem sc_func_string : isSc Try.prog 96 = true := by kernel_rfl
abbrev t_func_iTerm_int_int_97 : Nat := 97
theorem co_func_iTerm_int_int_97 : Try.prog.cellsOf 97 = 1 := by kernel_rfl
theorem sc_func_iTerm_int_int_97 : isSc Try.prog 97 = true := by kernel_rfl
abbrev t_func_string_string_int : Nat := 98
theorem co_func_string_string_int : Try.prog.cellsOf 98 = 1 := by kernel_rfl
theorem sc_func_string_string_int : isSc Try.prog 98 = true := by kernel_rfl
abbrev t_func_int_int_bool : Nat := 99
theorem co_func_int_int_bool : Try.prog.cellsOf 99 = 1 := by kernel_rfl
theorem sc_func_int_int_bool : isSc Try.prog 99 = true := by kernel_rfl
abbrev t_func_string_100 : Nat := 100
theorem co_func_string_100 : Try.prog.cellsOf 100 = 1 := by kernel_rfl
theorem sc_func_string_100 : isSc Try.prog 100 = true := by kernel_rfl
abbrev t_func_int : Nat := 106
theorem co_func_int : Try.prog.cellsOf 106 = 1 := by kernel_rfl
theorem sc_func_int : isSc Try.prog 106 = true := by kernel_rfl
abbrev t_uint32 : Nat := 107
theorem co_uint32 : Try.prog.cellsOf 107 = 1 := by kernel_rfl
theorem sc_uint32 : isSc Try.prog 107 = true := by kernel_rfl
theorem zo_uint32 : zeroOf Try.prog 107 = some (.int .u32 0) := by kernel_rfl
theorem un_uint32 : Try.prog.underlying 107 = some (.int .u32) := by kernel_rfl
abbrev t_func_unsafe_Pointer_unsafe_Pointer_bool : Nat := 110
theorem co_func_unsafe_Pointer_unsafe_Pointer_bool : Try.prog.cellsOf 110 = 1 := by kernel_rfl
theorem sc_func_unsafe_Pointer_unsafe_Pointer_bool : isSc Try.prog 110 = true := by kernel_rfl
abbrev t_Puint8 : Nat := 111
theorem co_Puint8 : Try.prog.cellsOf 111 = 1 := by kernel_rfl
theorem sc_Puint8 : isSc Try.prog 111 = true := by kernel_rfl
theorem zo_Puint8 : zeroOf Try.prog 111 = some (.pointer none) := by kernel_rfl
abbrev t_func_int_116 : Nat := 116
theorem co_func_int_116 : Try.prog.cellsOf 116 = 1 := by kernel_rfl
theorem sc_func_int_116 : isSc Try.prog 116 = true := by kernel_rfl
abbrev n_l_FnExactResolvent : Nat := 3
theorem fn_l_FnExactResolvent : Try.prog.funcs[3]? = some Try.f3 := Try.func3
theorem nm_l_FnExactResolvent : (Try.f3.name == "runtime.NumGoroutine" || Try.f3.body.isNone) = false := by kernel_rfl
abbrev n_l_szClause : Nat := 4
theorem fn_l_szClause : Try.prog.funcs[4]? = some Try.f4 := Try.func4
theorem nm_l_szClause : (Try.f4.name == "runtime.NumGoroutine" || Try.f4.body.isNone) = false := by kernel_rfl
abbrev n_s_Resolvent : Nat := 5
theorem fn_s_Resolvent : Try.prog.funcs[5]? = some Try.f5 := Try.func5
theorem nm_s_Resolvent : (Try.f5.name == "runtime.NumGoroutine" || Try.f5.body.isNone) = false := by kernel_rfl
abbrev n_l_toClause : Nat := 6
theorem fn_l_toClause : Try.prog.funcs[6]? = some Try.f6 := Try.func6
theorem nm_l_toClause : (Try.f6.name == "runtime.NumGoroutine" || Try.f6.body.isNone) = false := by kernel_rfl
abbrev n_i_Resolvent : Nat := 7
theorem fn_i_Resolvent : Try.prog.funcs[7]? = some Try.f7 := Try.func7
theorem nm_i_Resolvent : (Try.f7.name == "runtime.NumGoroutine" || Try.f7.body.isNone) = false := by kernel_rfl
abbrev n_l_eqClause : Nat := 8
theorem fn_l_eqClause : Try.prog.funcs[8]? = some Try.f8 := Try.func8
theorem nm_l_eqClause : (Try.f8.name == "runtime.NumGoroutine" || Try.f8.body.isNone) = false := by kernel_rfl
abbrev n_l_markClause : Nat := 9
theorem fn_l_markClause : Try.prog.funcs[9]? = some Try.f9 := Try.func9
theorem nm_l_markClause : (Try.f9.name == "runtime.NumGoroutine" || Try.f9.body.isNone) = false := by kernel_rfl
abbrev n_l_heldClause : Nat := 10
theorem fn_l_heldClause : Try.prog.funcs[10]? = some Try.f10 := Try.func10
theorem nm_l_heldClause : (Try.f10.name == "runtime.NumGoroutine" || Try.f10.body.isNone) = false := by kernel_rfl
abbrev n_l_szTerm : Nat := 11
theorem fn_l_szTerm : Try.prog.funcs[11]? = some Try.f11 := Try.func11
theorem nm_l_szTerm : (Try.f11.name == "runtime.NumGoroutine" || Try.f11.body.isNone) = false := by kernel_rfl
abbrev n_l_szTermS : Nat := 12
theorem fn_l_szTermS : Try.prog.funcs[12]? = some Try.f12 := Try.func12
theorem nm_l_szTermS : (Try.f12.name == "runtime.NumGoroutine" || Try.f12.body.isNone) = false := by kernel_rfl
abbrev n_s_ClauseValid : Nat := 13
theorem fn_s_ClauseValid : Try.prog.funcs[13]? = some Try.f13 := Try.func13
theorem nm_s_ClauseValid : (Try.f13.name == "runtime.NumGoroutine" || Try.f13.body.isNone) = false := by kernel_rfl
abbrev n_s_l15First : Nat := 14
theorem fn_s_l15First : Try.prog.funcs[14]? = some Try.f14 := Try.func14
theorem nm_s_l15First : (Try.f14.name == "runtime.NumGoroutine" || Try.f14.body.isNone) = false := by kernel_rfl
abbrev n_s_l15Resolvent : Nat := 15
theorem fn_s_l15Resolvent : Try.prog.funcs[15]? = some Try.f15 := Try.func15
theorem nm_s_l15Resolvent : (Try.f15.name == "runtime.NumGoroutine" || Try.f15.body.isNone) = false := by kernel_rfl
abbrev n_s_l4Copy : Nat := 16
theorem fn_s_l4Copy : Try.prog.funcs[16]? = some Try.f16 := Try.func16
theorem nm_s_l4Copy : (Try.f16.name == "runtime.NumGoroutine" || Try.f16.body.isNone) = false := by kernel_rfl
abbrev n_l_toTerm : Nat := 17
theorem fn_l_toTerm : Try.prog.funcs[17]? = some Try.f17 := Try.func17
theorem nm_l_toTerm : (Try.f17.name == "runtime.NumGoroutine" || Try.f17.body.isNone) = false := by kernel_rfl
abbrev n_l_toTermS : Nat := 18
theorem fn_l_toTermS : Try.prog.funcs[18]? = some Try.f18 := Try.func18
theorem nm_l_toTermS : (Try.f18.name == "runtime.NumGoroutine" || Try.f18.body.isNone) = false := by kernel_rfl
abbrev n_i_ClauseValid : Nat := 19
theorem fn_i_ClauseValid : Try.prog.funcs[19]? = some Try.f19 := Try.func19
theorem nm_i_ClauseValid : (Try.f19.name == "runtime.NumGoroutine" || Try.f19.body.isNone) = false := by kernel_rfl
abbrev n_i_firstPlain : Nat := 20
theorem fn_i_firstPlain : Try.prog.funcs[20]? = some Try.f20 := Try.func20
theorem nm_i_firstPlain : (Try.f20.name == "runtime.NumGoroutine" || Try.f20.body.isNone) = false := by kernel_rfl
abbrev n_i_resolvent : Nat := 21
theorem fn_i_resolvent : Try.prog.funcs[21]? = some Try.f21 := Try.func21
theorem nm_i_resolvent : (Try.f21.name == "runtime.NumGoroutine" || Try.f21.body.isNone) = false := by kernel_rfl
abbrev n_l_eqTerm : Nat := 22
theorem fn_l_eqTerm : Try.prog.funcs[22]? = some Try.f22 := Try.func22
theorem nm_l_eqTerm : (Try.f22.name == "runtime.NumGoroutine" || Try.f22.body.isNone) = false := by kernel_rfl
abbrev n_l_eqTermS : Nat := 23
theorem fn_l_eqTermS : Try.prog.funcs[23]? = some Try.f23 := Try.func23
theorem nm_l_eqTermS : (Try.f23.name == "runtime.NumGoroutine" || Try.f23.body.isNone) = false := by kernel_rfl
abbrev n_l_markTerm : Nat := 24
theorem fn_l_markTerm : Try.prog.funcs[24]? = some Try.f24 := Try.func24
theorem nm_l_markTerm : (Try.f24.name == "runtime.NumGoroutine" || Try.f24.body.isNone) = false := by kernel_rfl
abbrev n_l_markTermS : Nat := 25
theorem fn_l_markTermS : Try.prog.funcs[25]? = some Try.f25 := Try.func25
theorem nm_l_markTermS : (Try.f25.name == "runtime.NumGoroutine" || Try.f25.body.isNone) = false := by kernel_rfl
abbrev n_l_heldTerm : Nat := 26
theorem fn_l_heldTerm : Try.prog.funcs[26]? = some Try.f26 := Try.func26
theorem nm_l_heldTerm : (Try.f26.name == "runtime.NumGoroutine" || Try.f26.body.isNone) = false := by kernel_rfl
abbrev n_l_heldTermS : Nat := 27
theorem fn_l_heldTermS : Try.prog.funcs[27]? = some Try.f27 := Try.func27
theorem nm_l_heldTermS : (Try.f27.name == "runtime.NumGoroutine" || Try.f27.body.isNone) = false := by kernel_rfl
abbrev n_s_GoalValid : Nat := 28
theorem fn_s_GoalValid : Try.prog.funcs[28]? = some Try.f28 := Try.func28
theorem nm_s_GoalValid : (Try.f28.name == "runtime.NumGoroutine" || Try.f28.body.isNone) = false := by kernel_rfl
abbrev n_s_TermValid : Nat := 29
theorem fn_s_TermValid : Try.prog.funcs[29]? = some Try.f29 := Try.func29
theorem nm_s_TermValid : (Try.f29.name == "runtime.NumGoroutine" || Try.f29.body.isNone) = false := by kernel_rfl
abbrev n_s_l4Plain : Nat := 30
theorem fn_s_l4Plain : Try.prog.funcs[30]? = some Try.f30 := Try.func30
theorem nm_s_l4Plain : (Try.f30.name == "runtime.NumGoroutine" || Try.f30.body.isNone) = false := by kernel_rfl
abbrev n_s_l15Fresh : Nat := 31
theorem fn_s_l15Fresh : Try.prog.funcs[31]? = some Try.f31 := Try.func31
theorem nm_s_l15Fresh : (Try.f31.name == "runtime.NumGoroutine" || Try.f31.body.isNone) = false := by kernel_rfl
abbrev n_s_l3Unify : Nat := 32
theorem fn_s_l3Unify : Try.prog.funcs[32]? = some Try.f32 := Try.func32
theorem nm_s_l3Unify : (Try.f32.name == "runtime.NumGoroutine" || Try.f32.body.isNone) = false := by kernel_rfl
abbrev n_s_l6Small : Nat := 33
theorem fn_s_l6Small : Try.prog.funcs[33]? = some Try.f33 := Try.func33
theorem nm_s_l6Small : (Try.f33.name == "runtime.NumGoroutine" || Try.f33.body.isNone) = false := by kernel_rfl
abbrev n_s_l1Renumber : Nat := 34
theorem fn_s_l1Renumber : Try.prog.funcs[34]? = some Try.f34 := Try.func34
theorem nm_s_l1Renumber : (Try.f34.name == "runtime.NumGoroutine" || Try.f34.body.isNone) = false := by kernel_rfl
abbrev n_s_l1Copy : Nat := 35
theorem fn_s_l1Copy : Try.prog.funcs[35]? = some Try.f35 := Try.func35
theorem nm_s_l1Copy : (Try.f35.name == "runtime.NumGoroutine" || Try.f35.body.isNone) = false := by kernel_rfl
abbrev n_i_TermValid : Nat := 36
theorem fn_i_TermValid : Try.prog.funcs[36]? = some Try.f36 := Try.func36
theorem nm_i_TermValid : (Try.f36.name == "runtime.NumGoroutine" || Try.f36.body.isNone) = false := by kernel_rfl
abbrev n_i_isPlain : Nat := 37
theorem fn_i_isPlain : Try.prog.funcs[37]? = some Try.f37 := Try.func37
theorem nm_i_isPlain : (Try.f37.name == "runtime.NumGoroutine" || Try.f37.body.isNone) = false := by kernel_rfl
abbrev n_i_goalsValid : Nat := 38
theorem fn_i_goalsValid : Try.prog.funcs[38]? = some Try.f38 := Try.func38
theorem nm_i_goalsValid : (Try.f38.name == "runtime.NumGoroutine" || Try.f38.body.isNone) = false := by kernel_rfl
abbrev n_i_newStore : Nat := 39
theorem fn_i_newStore : Try.prog.funcs[39]? = some Try.f39 := Try.func39
theorem nm_i_newStore : (Try.f39.name == "runtime.NumGoroutine" || Try.f39.body.isNone) = false := by kernel_rfl
abbrev n_i_resolvent_1 : Nat := 40
theorem fn_i_resolvent_1 : Try.prog.funcs[40]? = some Try.f40 := Try.func40
theorem nm_i_resolvent_1 : (Try.f40.name == "runtime.NumGoroutine" || Try.f40.body.isNone) = false := by kernel_rfl
abbrev n_i_variable : Nat := 41
theorem fn_i_variable : Try.prog.funcs[41]? = some Try.f41 := Try.func41
theorem nm_i_variable : (Try.f41.name == "runtime.NumGoroutine" || Try.f41.body.isNone) = false := by kernel_rfl
abbrev n_i_store_unify : Nat := 42
theorem fn_i_store_unify : Try.prog.funcs[42]? = some Try.f42 := Try.func42
theorem nm_i_store_unify : (Try.f42.name == "runtime.NumGoroutine" || Try.f42.body.isNone) = false := by kernel_rfl
abbrev n_i_mapVars : Nat := 43
theorem fn_i_mapVars : Try.prog.funcs[43]? = some Try.f43 := Try.func43
theorem nm_i_mapVars : (Try.f43.name == "runtime.NumGoroutine" || Try.f43.body.isNone) = false := by kernel_rfl
abbrev n_i_store_resolve : Nat := 44
theorem fn_i_store_resolve : Try.prog.funcs[44]? = some Try.f44 := Try.func44
theorem nm_i_store_resolve : (Try.f44.name == "runtime.NumGoroutine" || Try.f44.body.isNone) = false := by kernel_rfl
abbrev n_i_numbered : Nat := 45
theorem fn_i_numbered : Try.prog.funcs[45]? = some Try.f45 := Try.func45
theorem nm_i_numbered : (Try.f45.name == "runtime.NumGoroutine" || Try.f45.body.isNone) = false := by kernel_rfl
abbrev n_i_ownClause : Nat := 46
theorem fn_i_ownClause : Try.prog.funcs[46]? = some Try.f46 := Try.func46
theorem nm_i_ownClause : (Try.f46.name == "runtime.NumGoroutine" || Try.f46.body.isNone) = false := by kernel_rfl
abbrev n_l_markText : Nat := 47
theorem fn_l_markText : Try.prog.funcs[47]? = some Try.f47 := Try.func47
theorem nm_l_markText : (Try.f47.name == "runtime.NumGoroutine" || Try.f47.body.isNone) = false := by kernel_rfl
abbrev n_s_l4Goal : Nat := 48
theorem fn_s_l4Goal : Try.prog.funcs[48]? = some Try.f48 := Try.func48
theorem nm_s_l4Goal : (Try.f48.name == "runtime.NumGoroutine" || Try.f48.body.isNone) = false := by kernel_rfl
abbrev n_s_l1Shape : Nat := 49
theorem fn_s_l1Shape : Try.prog.funcs[49]? = some Try.f49 := Try.func49
theorem nm_s_l1Shape : (Try.f49.name == "runtime.NumGoroutine" || Try.f49.body.isNone) = false := by kernel_rfl
abbrev n_s_l1Count : Nat := 50
theorem fn_s_l1Count : Try.prog.funcs[50]? = some Try.f50 := Try.func50
theorem nm_s_l1Count : (Try.f50.name == "runtime.NumGoroutine" || Try.f50.body.isNone) = false := by kernel_rfl
abbrev n_s_l1Word : Nat := 51
theorem fn_s_l1Word : Try.prog.funcs[51]? = some Try.f51 := Try.func51
theorem nm_s_l1Word : (Try.f51.name == "runtime.NumGoroutine" || Try.f51.body.isNone) = false := by kernel_rfl
abbrev n_s_IsBuiltin : Nat := 52
theorem fn_s_IsBuiltin : Try.prog.funcs[52]? = some Try.f52 := Try.func52
theorem nm_s_IsBuiltin : (Try.f52.name == "runtime.NumGoroutine" || Try.f52.body.isNone) = false := by kernel_rfl
abbrev n_s_l2Level : Nat := 53
theorem fn_s_l2Level : Try.prog.funcs[53]? = some Try.f53 := Try.func53
theorem nm_s_l2Level : (Try.f53.name == "runtime.NumGoroutine" || Try.f53.body.isNone) = false := by kernel_rfl
abbrev n_s_l3Shift : Nat := 54
theorem fn_s_l3Shift : Try.prog.funcs[54]? = some Try.f54 := Try.func54
theorem nm_s_l3Shift : (Try.f54.name == "runtime.NumGoroutine" || Try.f54.body.isNone) = false := by kernel_rfl
abbrev n_s_l3Walk : Nat := 55
theorem fn_s_l3Walk : Try.prog.funcs[55]? = some Try.f55 := Try.func55
theorem nm_s_l3Walk : (Try.f55.name == "runtime.NumGoroutine" || Try.f55.body.isNone) = false := by kernel_rfl
abbrev n_s_l3Within : Nat := 56
theorem fn_s_l3Within : Try.prog.funcs[56]? = some Try.f56 := Try.func56
theorem nm_s_l3Within : (Try.f56.name == "runtime.NumGoroutine" || Try.f56.body.isNone) = false := by kernel_rfl
abbrev n_s_l3Full : Nat := 57
theorem fn_s_l3Full : Try.prog.funcs[57]? = some Try.f57 := Try.func57
theorem nm_s_l3Full : (Try.f57.name == "runtime.NumGoroutine" || Try.f57.body.isNone) = false := by kernel_rfl
abbrev n_s_l6Flat : Nat := 58
theorem fn_s_l6Flat : Try.prog.funcs[58]? = some Try.f58 := Try.func58
theorem nm_s_l6Flat : (Try.f58.name == "runtime.NumGoroutine" || Try.f58.body.isNone) = false := by kernel_rfl
abbrev n_s_l1Vars : Nat := 59
theorem fn_s_l1Vars : Try.prog.funcs[59]? = some Try.f59 := Try.func59
theorem nm_s_l1Vars : (Try.f59.name == "runtime.NumGoroutine" || Try.f59.body.isNone) = false := by kernel_rfl
abbrev n_s_l1Rename : Nat := 60
theorem fn_s_l1Rename : Try.prog.funcs[60]? = some Try.f60 := Try.func60
theorem nm_s_l1Rename : (Try.f60.name == "runtime.NumGoroutine" || Try.f60.body.isNone) = false := by kernel_rfl
abbrev n_i_scan : Nat := 61
theorem fn_i_scan : Try.prog.funcs[61]? = some Try.f61 := Try.func61
theorem nm_i_scan : (Try.f61.name == "runtime.NumGoroutine" || Try.f61.body.isNone) = false := by kernel_rfl
abbrev n_i_isLetters : Nat := 62
theorem fn_i_isLetters : Try.prog.funcs[62]? = some Try.f62 := Try.func62
theorem nm_i_isLetters : (Try.f62.name == "runtime.NumGoroutine" || Try.f62.body.isNone) = false := by kernel_rfl
abbrev n_i_isOp : Nat := 63
theorem fn_i_isOp : Try.prog.funcs[63]? = some Try.f63 := Try.func63
theorem nm_i_isOp : (Try.f63.name == "runtime.NumGoroutine" || Try.f63.body.isNone) = false := by kernel_rfl
abbrev n_i_isBuilt : Nat := 64
theorem fn_i_isBuilt : Try.prog.funcs[64]? = some Try.f64 := Try.func64
theorem nm_i_isBuilt : (Try.f64.name == "runtime.NumGoroutine" || Try.f64.body.isNone) = false := by kernel_rfl
abbrev n_x_ContainsFunc_Term : Nat := 65
theorem fn_x_ContainsFunc_Term : Try.prog.funcs[65]? = some Try.f65 := Try.func65
theorem nm_x_ContainsFunc_Term : (Try.f65.name == "runtime.NumGoroutine" || Try.f65.body.isNone) = false := by kernel_rfl
abbrev n_i_goalsValid_1 : Nat := 66
theorem fn_i_goalsValid_1 : Try.prog.funcs[66]? = some Try.f66 := Try.func66
theorem nm_i_goalsValid_1 : (Try.f66.name == "runtime.NumGoroutine" || Try.f66.body.isNone) = false := by kernel_rfl
abbrev n_i_GoalValid : Nat := 67
theorem fn_i_GoalValid : Try.prog.funcs[67]? = some Try.f67 := Try.func67
theorem nm_i_GoalValid : (Try.f67.name == "runtime.NumGoroutine" || Try.f67.body.isNone) = false := by kernel_rfl
abbrev n_i_store_walk : Nat := 68
theorem fn_i_store_walk : Try.prog.funcs[68]? = some Try.f68 := Try.func68
theorem nm_i_store_walk : (Try.f68.name == "runtime.NumGoroutine" || Try.f68.body.isNone) = false := by kernel_rfl
abbrev n_i_store_bind : Nat := 69
theorem fn_i_store_bind : Try.prog.funcs[69]? = some Try.f69 := Try.func69
theorem nm_i_store_bind : (Try.f69.name == "runtime.NumGoroutine" || Try.f69.body.isNone) = false := by kernel_rfl
abbrev n_i_store_resolving : Nat := 70
theorem fn_i_store_resolving : Try.prog.funcs[70]? = some Try.f70 := Try.func70
theorem nm_i_store_resolving : (Try.f70.name == "runtime.NumGoroutine" || Try.f70.body.isNone) = false := by kernel_rfl
abbrev n_i_renumbered : Nat := 71
theorem fn_i_renumbered : Try.prog.funcs[71]? = some Try.f71 := Try.func71
theorem nm_i_renumbered : (Try.f71.name == "runtime.NumGoroutine" || Try.f71.body.isNone) = false := by kernel_rfl
abbrev n_x_Clip_Term : Nat := 72
theorem fn_x_Clip_Term : Try.prog.funcs[72]? = some Try.f72 := Try.func72
theorem nm_x_Clip_Term : (Try.f72.name == "runtime.NumGoroutine" || Try.f72.body.isNone) = false := by kernel_rfl
abbrev n_i_own : Nat := 73
theorem fn_i_own : Try.prog.funcs[73]? = some Try.f73 := Try.func73
theorem nm_i_own : (Try.f73.name == "runtime.NumGoroutine" || Try.f73.body.isNone) = false := by kernel_rfl
abbrev n_i_ownList : Nat := 74
theorem fn_i_ownList : Try.prog.funcs[74]? = some Try.f74 := Try.func74
theorem nm_i_ownList : (Try.f74.name == "runtime.NumGoroutine" || Try.f74.body.isNone) = false := by kernel_rfl
abbrev n_s_l4Cut : Nat := 75
theorem fn_s_l4Cut : Try.prog.funcs[75]? = some Try.f75 := Try.func75
theorem nm_s_l4Cut : (Try.f75.name == "runtime.NumGoroutine" || Try.f75.body.isNone) = false := by kernel_rfl
abbrev n_s_l1Own : Nat := 76
theorem fn_s_l1Own : Try.prog.funcs[76]? = some Try.f76 := Try.func76
theorem nm_s_l1Own : (Try.f76.name == "runtime.NumGoroutine" || Try.f76.body.isNone) = false := by kernel_rfl
abbrev n_i_within : Nat := 77
theorem fn_i_within : Try.prog.funcs[77]? = some Try.f77 := Try.func77
theorem nm_i_within : (Try.f77.name == "runtime.NumGoroutine" || Try.f77.body.isNone) = false := by kernel_rfl
abbrev n_i_NameValid : Nat := 78
theorem fn_i_NameValid : Try.prog.funcs[78]? = some Try.f78 := Try.func78
theorem nm_i_NameValid : (Try.f78.name == "runtime.NumGoroutine" || Try.f78.body.isNone) = false := by kernel_rfl
abbrev n_i_scan_1 : Nat := 79
theorem fn_i_scan_1 : Try.prog.funcs[79]? = some Try.f79 := Try.func79
theorem nm_i_scan_1 : (Try.f79.name == "runtime.NumGoroutine" || Try.f79.body.isNone) = false := by kernel_rfl
abbrev n_i_OpLevel : Nat := 80
theorem fn_i_OpLevel : Try.prog.funcs[80]? = some Try.f80 := Try.func80
theorem nm_i_OpLevel : (Try.f80.name == "runtime.NumGoroutine" || Try.f80.body.isNone) = false := by kernel_rfl
abbrev n_i_IsBuiltin : Nat := 81
theorem fn_i_IsBuiltin : Try.prog.funcs[81]? = some Try.f81 := Try.func81
theorem nm_i_IsBuiltin : (Try.f81.name == "runtime.NumGoroutine" || Try.f81.body.isNone) = false := by kernel_rfl
abbrev n_x_IndexFunc_Term : Nat := 82
theorem fn_x_IndexFunc_Term : Try.prog.funcs[82]? = some Try.f82 := Try.func82
theorem nm_x_IndexFunc_Term : (Try.f82.name == "runtime.NumGoroutine" || Try.f82.body.isNone) = false := by kernel_rfl
abbrev n_i_isCut : Nat := 83
theorem fn_i_isCut : Try.prog.funcs[83]? = some Try.f83 := Try.func83
theorem nm_i_isCut : (Try.f83.name == "runtime.NumGoroutine" || Try.f83.body.isNone) = false := by kernel_rfl
abbrev n_i_store_occurs : Nat := 84
theorem fn_i_store_occurs : Try.prog.funcs[84]? = some Try.f84 := Try.func84
theorem nm_i_store_occurs : (Try.f84.name == "runtime.NumGoroutine" || Try.f84.body.isNone) = false := by kernel_rfl
abbrev n_i_varsOf : Nat := 85
theorem fn_i_varsOf : Try.prog.funcs[85]? = some Try.f85 := Try.func85
theorem nm_i_varsOf : (Try.f85.name == "runtime.NumGoroutine" || Try.f85.body.isNone) = false := by kernel_rfl
abbrev n_i_renumbered_1 : Nat := 86
theorem fn_i_renumbered_1 : Try.prog.funcs[86]? = some Try.f86 := Try.func86
theorem nm_i_renumbered_1 : (Try.f86.name == "runtime.NumGoroutine" || Try.f86.body.isNone) = false := by kernel_rfl
abbrev n_x_Index_int : Nat := 87
theorem fn_x_Index_int : Try.prog.funcs[87]? = some Try.f87 := Try.func87
theorem nm_x_Index_int : (Try.f87.name == "runtime.NumGoroutine" || Try.f87.body.isNone) = false := by kernel_rfl
abbrev n_s_NameValid : Nat := 88
theorem fn_s_NameValid : Try.prog.funcs[88]? = some Try.f88 := Try.func88
theorem nm_s_NameValid : (Try.f88.name == "runtime.NumGoroutine" || Try.f88.body.isNone) = false := by kernel_rfl
abbrev n_x_Contains_string : Nat := 89
theorem fn_x_Contains_string : Try.prog.funcs[89]? = some Try.f89 := Try.func89
theorem nm_x_Contains_string : (Try.f89.name == "runtime.NumGoroutine" || Try.f89.body.isNone) = false := by kernel_rfl
abbrev n_i_symbols : Nat := 90
theorem fn_i_symbols : Try.prog.funcs[90]? = some Try.f90 := Try.func90
theorem nm_i_symbols : (Try.f90.name == "runtime.NumGoroutine" || Try.f90.body.isNone) = false := by kernel_rfl
abbrev n_i_isAtom : Nat := 91
theorem fn_i_isAtom : Try.prog.funcs[91]? = some Try.f91 := Try.func91
theorem nm_i_isAtom : (Try.f91.name == "runtime.NumGoroutine" || Try.f91.body.isNone) = false := by kernel_rfl
abbrev n_i_store_occurs_1 : Nat := 92
theorem fn_i_store_occurs_1 : Try.prog.funcs[92]? = some Try.f92 := Try.func92
theorem nm_i_store_occurs_1 : (Try.f92.name == "runtime.NumGoroutine" || Try.f92.body.isNone) = false := by kernel_rfl
abbrev n_i_addVars : Nat := 93
theorem fn_i_addVars : Try.prog.funcs[93]? = some Try.f93 := Try.func93
theorem nm_i_addVars : (Try.f93.name == "runtime.NumGoroutine" || Try.f93.body.isNone) = false := by kernel_rfl
abbrev n_s_l1Has : Nat := 94
theorem fn_s_l1Has : Try.prog.funcs[94]? = some Try.f94 := Try.func94
theorem nm_s_l1Has : (Try.f94.name == "runtime.NumGoroutine" || Try.f94.body.isNone) = false := by kernel_rfl
abbrev n_s_l1Signs : Nat := 95
theorem fn_s_l1Signs : Try.prog.funcs[95]? = some Try.f95 := Try.func95
theorem nm_s_l1Signs : (Try.f95.name == "runtime.NumGoroutine" || Try.f95.body.isNone) = false := by kernel_rfl
abbrev n_x_Index_string : Nat := 96
theorem fn_x_Index_string : Try.prog.funcs[96]? = some Try.f96 := Try.func96
theorem nm_x_Index_string : (Try.f96.name == "runtime.NumGoroutine" || Try.f96.body.isNone) = false := by kernel_rfl
abbrev n_x_Contains_int : Nat := 97
theorem fn_x_Contains_int : Try.prog.funcs[97]? = some Try.f97 := Try.func97
theorem nm_x_Contains_int : (Try.f97.name == "runtime.NumGoroutine" || Try.f97.body.isNone) = false := by kernel_rfl
end Go.Proofs.Ytaaihodhhacapaa

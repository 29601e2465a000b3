/- Made by program: names for the numbers of functions and types, and closed facts on them. -/
import Derived.Test.YtmnnpgdeecnfpaaGreatRules2
import Derived.Test.YtmnnpgdeecnfpaaGreatProg
import Derived.KernelRfl
namespace Go.Proofs.YtmnnpgdeecnfpaaGreat
open Go
abbrev t_func : Nat := 1
theorem co_func : Tryz.prog.cellsOf 1 = 1 := by kernel_rfl
theorem sc_func : isSc Tryz.prog 1 = true := by kernel_rfl
abbrev t_int64 : Nat := 2
theorem co_int64 : Tryz.prog.cellsOf 2 = 1 := by kernel_rfl
theorem sc_int64 : isSc Tryz.prog 2 = true := by kernel_rfl
theorem zo_int64 : zeroOf Tryz.prog 2 = some (.int .i64 0) := by kernel_rfl
theorem un_int64 : Tryz.prog.underlying 2 = some (.int .i64) := by kernel_rfl
abbrev t_int : Nat := 3
theorem co_int : Tryz.prog.cellsOf 3 = 1 := by kernel_rfl
theorem sc_int : isSc Tryz.prog 3 = true := by kernel_rfl
theorem zo_int : zeroOf Tryz.prog 3 = some (.int .i64 0) := by kernel_rfl
theorem un_int : Tryz.prog.underlying 3 = some (.int .i64) := by kernel_rfl
abbrev t_bool : Nat := 4
theorem co_bool : Tryz.prog.cellsOf 4 = 1 := by kernel_rfl
theorem sc_bool : isSc Tryz.prog 4 = true := by kernel_rfl
theorem zo_bool : zeroOf Tryz.prog 4 = some (.bool false) := by kernel_rfl
theorem un_bool : Tryz.prog.underlying 4 = some .bool := by kernel_rfl
abbrev t_uint8 : Nat := 5
theorem co_uint8 : Tryz.prog.cellsOf 5 = 1 := by kernel_rfl
theorem sc_uint8 : isSc Tryz.prog 5 = true := by kernel_rfl
theorem zo_uint8 : zeroOf Tryz.prog 5 = some (.int .u8 0) := by kernel_rfl
theorem un_uint8 : Tryz.prog.underlying 5 = some (.int .u8) := by kernel_rfl
abbrev t_string : Nat := 9
theorem co_string : Tryz.prog.cellsOf 9 = 1 := by kernel_rfl
theorem sc_string : isSc Tryz.prog 9 = true := by kernel_rfl
theorem zo_string : zeroOf Tryz.prog 9 = some (.string ⟨#[]⟩) := by kernel_rfl
theorem un_string : Tryz.prog.underlying 9 = some .string := by kernel_rfl
abbrev t_uintptr : Nat := 12
theorem co_uintptr : Tryz.prog.cellsOf 12 = 1 := by kernel_rfl
theorem sc_uintptr : isSc Tryz.prog 12 = true := by kernel_rfl
theorem zo_uintptr : zeroOf Tryz.prog 12 = some (.int .u64 0) := by kernel_rfl
theorem un_uintptr : Tryz.prog.underlying 12 = some (.int .u64) := by kernel_rfl
abbrev t_int32 : Nat := 21
theorem co_int32 : Tryz.prog.cellsOf 21 = 1 := by kernel_rfl
theorem sc_int32 : isSc Tryz.prog 21 = true := by kernel_rfl
theorem zo_int32 : zeroOf Tryz.prog 21 = some (.int .i32 0) := by kernel_rfl
theorem un_int32 : Tryz.prog.underlying 21 = some (.int .i32) := by kernel_rfl
abbrev t_Suint8 : Nat := 22
theorem co_Suint8 : Tryz.prog.cellsOf 22 = 1 := by kernel_rfl
theorem sc_Suint8 : isSc Tryz.prog 22 = true := by kernel_rfl
theorem zo_Suint8 : zeroOf Tryz.prog 22 = some (.slice none 0 0) := by kernel_rfl
theorem mk_Suint8 : mkOf Tryz.prog 22 = some (5, 1, 1, (.int .u8 0)) := by kernel_rfl
theorem sl_Suint8 : sliceOf Tryz.prog 22 = some (5, 1) := by kernel_rfl
abbrev t_SiClause : Nat := 23
theorem co_SiClause : Tryz.prog.cellsOf 23 = 1 := by kernel_rfl
theorem sc_SiClause : isSc Tryz.prog 23 = true := by kernel_rfl
theorem zo_SiClause : zeroOf Tryz.prog 23 = some (.slice none 0 0) := by kernel_rfl
theorem mk_SiClause : mkOf Tryz.prog 23 = some (34, 5, 80, (.agg #[(.int .i64 0), (.int .i64 0), (.string ⟨#[]⟩), (.slice none 0 0), (.slice none 0 0)])) := by kernel_rfl
theorem sl_SiClause : sliceOf Tryz.prog 23 = some (34, 5) := by kernel_rfl
abbrev t_func_uint8_iClause : Nat := 24
theorem co_func_uint8_iClause : Tryz.prog.cellsOf 24 = 1 := by kernel_rfl
theorem sc_func_uint8_iClause : isSc Tryz.prog 24 = true := by kernel_rfl
abbrev t_SiPred : Nat := 25
theorem co_SiPred : Tryz.prog.cellsOf 25 = 1 := by kernel_rfl
theorem sc_SiPred : isSc Tryz.prog 25 = true := by kernel_rfl
theorem zo_SiPred : zeroOf Tryz.prog 25 = some (.slice none 0 0) := by kernel_rfl
theorem mk_SiPred : mkOf Tryz.prog 25 = some (36, 2, 24, (.agg #[(.string ⟨#[]⟩), (.int .i64 0)])) := by kernel_rfl
theorem sl_SiPred : sliceOf Tryz.prog 25 = some (36, 2) := by kernel_rfl
abbrev t_func_iClause_iPred : Nat := 26
theorem co_func_iClause_iPred : Tryz.prog.cellsOf 26 = 1 := by kernel_rfl
theorem sc_func_iClause_iPred : isSc Tryz.prog 26 = true := by kernel_rfl
abbrev t_func_iPred_iPred_bool : Nat := 27
theorem co_func_iPred_iPred_bool : Tryz.prog.cellsOf 27 = 1 := by kernel_rfl
theorem sc_func_iPred_iPred_bool : isSc Tryz.prog 27 = true := by kernel_rfl
abbrev t_func_iClause_bool : Nat := 28
theorem co_func_iClause_bool : Tryz.prog.cellsOf 28 = 1 := by kernel_rfl
theorem sc_func_iClause_bool : isSc Tryz.prog 28 = true := by kernel_rfl
abbrev t_func_iPred_iPred_bool_29 : Nat := 29
theorem co_func_iPred_iPred_bool_29 : Tryz.prog.cellsOf 29 = 1 := by kernel_rfl
theorem sc_func_iPred_iPred_bool_29 : isSc Tryz.prog 29 = true := by kernel_rfl
abbrev t_SiTerm : Nat := 30
theorem co_SiTerm : Tryz.prog.cellsOf 30 = 1 := by kernel_rfl
theorem sc_SiTerm : isSc Tryz.prog 30 = true := by kernel_rfl
theorem zo_SiTerm : zeroOf Tryz.prog 30 = some (.slice none 0 0) := by kernel_rfl
theorem mk_SiTerm : mkOf Tryz.prog 30 = some (32, 4, 56, (.agg #[(.int .i64 0), (.int .i64 0), (.string ⟨#[]⟩), (.slice none 0 0)])) := by kernel_rfl
theorem sl_SiTerm : sliceOf Tryz.prog 30 = some (32, 4) := by kernel_rfl
abbrev t_iTerm : Nat := 32
theorem co_iTerm : Tryz.prog.cellsOf 32 = 4 := by kernel_rfl
theorem fl_iTerm : flds Tryz.prog 32 = some [(0, 3), (1, 3), (2, 9), (3, 30)] := by kernel_rfl
theorem ag_iTerm : aggN Tryz.prog 32 = some 4 := by kernel_rfl
theorem zo_iTerm : zeroOf Tryz.prog 32 = some (.agg #[(.int .i64 0), (.int .i64 0), (.string ⟨#[]⟩), (.slice none 0 0)]) := by kernel_rfl
theorem fo_iTerm_0 : fieldOff Tryz.prog 32 0 = some 0 := by kernel_rfl
theorem fo_iTerm_1 : fieldOff Tryz.prog 32 1 = some 1 := by kernel_rfl
theorem fo_iTerm_2 : fieldOff Tryz.prog 32 2 = some 2 := by kernel_rfl
theorem fo_iTerm_3 : fieldOff Tryz.prog 32 3 = some 3 := by kernel_rfl
abbrev t_iClause : Nat := 34
theorem co_iClause : Tryz.prog.cellsOf 34 = 5 := by kernel_rfl
theorem fl_iClause : flds Tryz.prog 34 = some [(0, 32), (4, 30)] := by kernel_rfl
theorem ag_iClause : aggN Tryz.prog 34 = some 5 := by kernel_rfl
theorem zo_iClause : zeroOf Tryz.prog 34 = some (.agg #[(.int .i64 0), (.int .i64 0), (.string ⟨#[]⟩), (.slice none 0 0), (.slice none 0 0)]) := by kernel_rfl
theorem fo_iClause_0 : fieldOff Tryz.prog 34 0 = some 0 := by kernel_rfl
theorem fo_iClause_1 : fieldOff Tryz.prog 34 1 = some 4 := by kernel_rfl
abbrev t_iPred : Nat := 36
theorem co_iPred : Tryz.prog.cellsOf 36 = 2 := by kernel_rfl
theorem fl_iPred : flds Tryz.prog 36 = some [(0, 9), (1, 3)] := by kernel_rfl
theorem ag_iPred : aggN Tryz.prog 36 = some 2 := by kernel_rfl
theorem zo_iPred : zeroOf Tryz.prog 36 = some (.agg #[(.string ⟨#[]⟩), (.int .i64 0)]) := by kernel_rfl
theorem fo_iPred_0 : fieldOff Tryz.prog 36 0 = some 0 := by kernel_rfl
theorem fo_iPred_1 : fieldOff Tryz.prog 36 1 = some 1 := by kernel_rfl
abbrev t_func_uint8_bool : Nat := 37
theorem co_func_uint8_bool : Tryz.prog.cellsOf 37 = 1 := by kernel_rfl
theorem sc_func_uint8_bool : isSc Tryz.prog 37 = true := by kernel_rfl
abbrev t_iClause_iClause : Nat := 38
abbrev t_func_uint8_iClause_iClause : Nat := 39
theorem co_func_uint8_iClause_iClause : Tryz.prog.cellsOf 39 = 1 := by kernel_rfl
theorem sc_func_uint8_iClause_iClause : isSc Tryz.prog 39 = true := by kernel_rfl
abbrev t_func_iClause_iClause_bool : Nat := 40
theorem co_func_iClause_iClause_bool : Tryz.prog.cellsOf 40 = 1 := by kernel_rfl
theorem sc_func_iClause_iClause_bool : isSc Tryz.prog 40 = true := by kernel_rfl
abbrev t_func_iClause_bool_41 : Nat := 41
theorem co_func_iClause_bool_41 : Tryz.prog.cellsOf 41 = 1 := by kernel_rfl
theorem sc_func_iClause_bool_41 : isSc Tryz.prog 41 = true := by kernel_rfl
abbrev t_func_iTerm_iTerm_bool : Nat := 42
theorem co_func_iTerm_iTerm_bool : Tryz.prog.cellsOf 42 = 1 := by kernel_rfl
theorem sc_func_iTerm_iTerm_bool : isSc Tryz.prog 42 = true := by kernel_rfl
abbrev t_func_uint8_uint8_bool : Nat := 43
theorem co_func_uint8_uint8_bool : Tryz.prog.cellsOf 43 = 1 := by kernel_rfl
theorem sc_func_uint8_uint8_bool : isSc Tryz.prog 43 = true := by kernel_rfl
abbrev t_iClause_iPred : Nat := 44
abbrev t_func_uint8_iClause_iPred : Nat := 45
theorem co_func_uint8_iClause_iPred : Tryz.prog.cellsOf 45 = 1 := by kernel_rfl
theorem sc_func_uint8_iClause_iPred : isSc Tryz.prog 45 = true := by kernel_rfl
abbrev t_iClause_bool : Nat := 46
abbrev t_func_iClause_iPred_iClause_bool : Nat := 47
theorem co_func_iClause_iPred_iClause_bool : Tryz.prog.cellsOf 47 = 1 := by kernel_rfl
theorem sc_func_iClause_iPred_iClause_bool : isSc Tryz.prog 47 = true := by kernel_rfl
abbrev t_func_iClause_iClause_bool_48 : Nat := 48
theorem co_func_iClause_iClause_bool_48 : Tryz.prog.cellsOf 48 = 1 := by kernel_rfl
theorem sc_func_iClause_iClause_bool_48 : isSc Tryz.prog 48 = true := by kernel_rfl
abbrev t_func_iClause_iPred_bool : Nat := 49
theorem co_func_iClause_iPred_bool : Tryz.prog.cellsOf 49 = 1 := by kernel_rfl
theorem sc_func_iClause_iPred_bool : isSc Tryz.prog 49 = true := by kernel_rfl
abbrev t_func_iClause_iPred_iPred : Nat := 50
theorem co_func_iClause_iPred_iPred : Tryz.prog.cellsOf 50 = 1 := by kernel_rfl
theorem sc_func_iClause_iPred_iPred : isSc Tryz.prog 50 = true := by kernel_rfl
abbrev t_func_iClause_iTerm_iPred : Nat := 51
theorem co_func_iClause_iTerm_iPred : Tryz.prog.cellsOf 51 = 1 := by kernel_rfl
theorem sc_func_iClause_iTerm_iPred : isSc Tryz.prog 51 = true := by kernel_rfl
abbrev t_func_uint8_iClause_52 : Nat := 52
theorem co_func_uint8_iClause_52 : Tryz.prog.cellsOf 52 = 1 := by kernel_rfl
theorem sc_func_uint8_iClause_52 : isSc Tryz.prog 52 = true := by kernel_rfl
abbrev t_iClause_bool_53 : Nat := 53
abbrev t_func_iClause_iClause_bool_54 : Nat := 54
theorem co_func_iClause_iClause_bool_54 : Tryz.prog.cellsOf 54 = 1 := by kernel_rfl
theorem sc_func_iClause_iClause_bool_54 : isSc Tryz.prog 54 = true := by kernel_rfl
abbrev t_func_iClause_iTerm : Nat := 55
theorem co_func_iClause_iTerm : Tryz.prog.cellsOf 55 = 1 := by kernel_rfl
theorem sc_func_iClause_iTerm : isSc Tryz.prog 55 = true := by kernel_rfl
abbrev t_iClause_iTerm : Nat := 56
abbrev t_func_uint8_iClause_iTerm : Nat := 57
theorem co_func_uint8_iClause_iTerm : Tryz.prog.cellsOf 57 = 1 := by kernel_rfl
theorem sc_func_uint8_iClause_iTerm : isSc Tryz.prog 57 = true := by kernel_rfl
abbrev t_func_iTerm_bool : Nat := 58
theorem co_func_iTerm_bool : Tryz.prog.cellsOf 58 = 1 := by kernel_rfl
theorem sc_func_iTerm_bool : isSc Tryz.prog 58 = true := by kernel_rfl
abbrev t_iClause_int : Nat := 59
abbrev t_func_uint8_iClause_int : Nat := 60
theorem co_func_uint8_iClause_int : Tryz.prog.cellsOf 60 = 1 := by kernel_rfl
theorem sc_func_uint8_iClause_int : isSc Tryz.prog 60 = true := by kernel_rfl
abbrev t_func_iClause_int_bool : Nat := 61
theorem co_func_iClause_int_bool : Tryz.prog.cellsOf 61 = 1 := by kernel_rfl
theorem sc_func_iClause_int_bool : isSc Tryz.prog 61 = true := by kernel_rfl
abbrev t_func_iClause_int_iClause_bool : Nat := 62
theorem co_func_iClause_int_iClause_bool : Tryz.prog.cellsOf 62 = 1 := by kernel_rfl
theorem sc_func_iClause_int_iClause_bool : isSc Tryz.prog 62 = true := by kernel_rfl
abbrev t_Sint : Nat := 63
theorem co_Sint : Tryz.prog.cellsOf 63 = 1 := by kernel_rfl
theorem sc_Sint : isSc Tryz.prog 63 = true := by kernel_rfl
theorem zo_Sint : zeroOf Tryz.prog 63 = some (.slice none 0 0) := by kernel_rfl
theorem mk_Sint : mkOf Tryz.prog 63 = some (3, 1, 8, (.int .i64 0)) := by kernel_rfl
theorem sl_Sint : sliceOf Tryz.prog 63 = some (3, 1) := by kernel_rfl
abbrev t_func_iClause_iTerm_int : Nat := 64
theorem co_func_iClause_iTerm_int : Tryz.prog.cellsOf 64 = 1 := by kernel_rfl
theorem sc_func_iClause_iTerm_int : isSc Tryz.prog 64 = true := by kernel_rfl
abbrev t_func_int_int_bool : Nat := 65
theorem co_func_int_int_bool : Tryz.prog.cellsOf 65 = 1 := by kernel_rfl
theorem sc_func_int_int_bool : isSc Tryz.prog 65 = true := by kernel_rfl
abbrev t_Psl18Rd : Nat := 66
theorem co_Psl18Rd : Tryz.prog.cellsOf 66 = 1 := by kernel_rfl
theorem sc_Psl18Rd : isSc Tryz.prog 66 = true := by kernel_rfl
theorem zo_Psl18Rd : zeroOf Tryz.prog 66 = some (.pointer none) := by kernel_rfl
abbrev t_func_uint8_sl18Rd : Nat := 67
theorem co_func_uint8_sl18Rd : Tryz.prog.cellsOf 67 = 1 := by kernel_rfl
theorem sc_func_uint8_sl18Rd : isSc Tryz.prog 67 = true := by kernel_rfl
abbrev t_func_sl18Rd_iClause_iClause : Nat := 68
theorem co_func_sl18Rd_iClause_iClause : Tryz.prog.cellsOf 68 = 1 := by kernel_rfl
theorem sc_func_sl18Rd_iClause_iClause : isSc Tryz.prog 68 = true := by kernel_rfl
abbrev t_func_sl18Rd_iClause : Nat := 69
theorem co_func_sl18Rd_iClause : Tryz.prog.cellsOf 69 = 1 := by kernel_rfl
theorem sc_func_sl18Rd_iClause : isSc Tryz.prog 69 = true := by kernel_rfl
abbrev t_func_iPred_iPred_iPred : Nat := 70
theorem co_func_iPred_iPred_iPred : Tryz.prog.cellsOf 70 = 1 := by kernel_rfl
theorem sc_func_iPred_iPred_iPred : isSc Tryz.prog 70 = true := by kernel_rfl
abbrev t_func_iTerm_iPred : Nat := 71
theorem co_func_iTerm_iPred : Tryz.prog.cellsOf 71 = 1 := by kernel_rfl
theorem sc_func_iTerm_iPred : isSc Tryz.prog 71 = true := by kernel_rfl
abbrev t_func_iClause_func_iClause_bool_bool : Nat := 72
theorem co_func_iClause_func_iClause_bool_bool : Tryz.prog.cellsOf 72 = 1 := by kernel_rfl
theorem sc_func_iClause_func_iClause_bool_bool : isSc Tryz.prog 72 = true := by kernel_rfl
abbrev t_func_sl18Rd_iClause_73 : Nat := 73
theorem co_func_sl18Rd_iClause_73 : Tryz.prog.cellsOf 73 = 1 := by kernel_rfl
theorem sc_func_sl18Rd_iClause_73 : isSc Tryz.prog 73 = true := by kernel_rfl
abbrev t_func_iClause_int_iClause : Nat := 74
theorem co_func_iClause_int_iClause : Tryz.prog.cellsOf 74 = 1 := by kernel_rfl
theorem sc_func_iClause_int_iClause : isSc Tryz.prog 74 = true := by kernel_rfl
abbrev t_func_int_int : Nat := 75
theorem co_func_int_int : Tryz.prog.cellsOf 75 = 1 := by kernel_rfl
theorem sc_func_int_int : isSc Tryz.prog 75 = true := by kernel_rfl
abbrev t_func_sl18Rd_iClause_iClause_76 : Nat := 76
theorem co_func_sl18Rd_iClause_iClause_76 : Tryz.prog.cellsOf 76 = 1 := by kernel_rfl
theorem sc_func_sl18Rd_iClause_iClause_76 : isSc Tryz.prog 76 = true := by kernel_rfl
abbrev t_Mint_iTerm : Nat := 77
theorem co_Mint_iTerm : Tryz.prog.cellsOf 77 = 1 := by kernel_rfl
theorem sc_Mint_iTerm : isSc Tryz.prog 77 = true := by kernel_rfl
theorem zo_Mint_iTerm : zeroOf Tryz.prog 77 = some (.map none) := by kernel_rfl
theorem un_Mint_iTerm : Tryz.prog.underlying 77 = some (.map 3 32) := by kernel_rfl
abbrev t_func_iTerm_iTerm_map_int_iTerm_bool : Nat := 78
theorem co_func_iTerm_iTerm_map_int_iTerm_bool : Tryz.prog.cellsOf 78 = 1 := by kernel_rfl
theorem sc_func_iTerm_iTerm_map_int_iTerm_bool : isSc Tryz.prog 78 = true := by kernel_rfl
abbrev t_func_iTerm_iTerm_iTerm_bool : Nat := 79
theorem co_func_iTerm_iTerm_iTerm_bool : Tryz.prog.cellsOf 79 = 1 := by kernel_rfl
theorem sc_func_iTerm_iTerm_iTerm_bool : isSc Tryz.prog 79 = true := by kernel_rfl
abbrev t_func_iTerm_bool_80 : Nat := 80
theorem co_func_iTerm_bool_80 : Tryz.prog.cellsOf 80 = 1 := by kernel_rfl
theorem sc_func_iTerm_bool_80 : isSc Tryz.prog 80 = true := by kernel_rfl
abbrev t_func_iClause_iClause : Nat := 81
theorem co_func_iClause_iClause : Tryz.prog.cellsOf 81 = 1 := by kernel_rfl
theorem sc_func_iClause_iClause : isSc Tryz.prog 81 = true := by kernel_rfl
abbrev t_Sstring : Nat := 82
theorem co_Sstring : Tryz.prog.cellsOf 82 = 1 := by kernel_rfl
theorem sc_Sstring : isSc Tryz.prog 82 = true := by kernel_rfl
theorem zo_Sstring : zeroOf Tryz.prog 82 = some (.slice none 0 0) := by kernel_rfl
theorem mk_Sstring : mkOf Tryz.prog 82 = some (9, 1, 16, (.string ⟨#[]⟩)) := by kernel_rfl
theorem sl_Sstring : sliceOf Tryz.prog 82 = some (9, 1) := by kernel_rfl
abbrev t_func_string_iClause_bool : Nat := 83
theorem co_func_string_iClause_bool : Tryz.prog.cellsOf 83 = 1 := by kernel_rfl
theorem sc_func_string_iClause_bool : isSc Tryz.prog 83 = true := by kernel_rfl
abbrev t_func_iClause_iPred_iPred_84 : Nat := 84
theorem co_func_iClause_iPred_iPred_84 : Tryz.prog.cellsOf 84 = 1 := by kernel_rfl
theorem sc_func_iClause_iPred_iPred_84 : isSc Tryz.prog 84 = true := by kernel_rfl
abbrev t_func_iTerm_iPred_iPred : Nat := 85
theorem co_func_iTerm_iPred_iPred : Tryz.prog.cellsOf 85 = 1 := by kernel_rfl
theorem sc_func_iTerm_iPred_iPred : isSc Tryz.prog 85 = true := by kernel_rfl
abbrev t_func_iTerm_int_iTerm : Nat := 86
theorem co_func_iTerm_int_iTerm : Tryz.prog.cellsOf 86 = 1 := by kernel_rfl
theorem sc_func_iTerm_int_iTerm : isSc Tryz.prog 86 = true := by kernel_rfl
abbrev t_func_iClause_iClause_87 : Nat := 87
theorem co_func_iClause_iClause_87 : Tryz.prog.cellsOf 87 = 1 := by kernel_rfl
theorem sc_func_iClause_iClause_87 : isSc Tryz.prog 87 = true := by kernel_rfl
abbrev t_func_iTerm_iTerm_func_iTerm_iTerm_bool_bool : Nat := 88
theorem co_func_iTerm_iTerm_func_iTerm_iTerm_bool_bool : Tryz.prog.cellsOf 88 = 1 := by kernel_rfl
theorem sc_func_iTerm_iTerm_func_iTerm_iTerm_bool_bool : isSc Tryz.prog 88 = true := by kernel_rfl
abbrev t_func_iTerm_iTerm : Nat := 89
theorem co_func_iTerm_iTerm : Tryz.prog.cellsOf 89 = 1 := by kernel_rfl
theorem sc_func_iTerm_iTerm : isSc Tryz.prog 89 = true := by kernel_rfl
abbrev t_func_sl18Rd_iClause_iPred : Nat := 90
theorem co_func_sl18Rd_iClause_iPred : Tryz.prog.cellsOf 90 = 1 := by kernel_rfl
theorem sc_func_sl18Rd_iClause_iPred : isSc Tryz.prog 90 = true := by kernel_rfl
abbrev t_func_iClause_iPred_int : Nat := 91
theorem co_func_iClause_iPred_int : Tryz.prog.cellsOf 91 = 1 := by kernel_rfl
theorem sc_func_iClause_iPred_int : isSc Tryz.prog 91 = true := by kernel_rfl
abbrev t_func_iTerm_iTerm_92 : Nat := 92
theorem co_func_iTerm_iTerm_92 : Tryz.prog.cellsOf 92 = 1 := by kernel_rfl
theorem sc_func_iTerm_iTerm_92 : isSc Tryz.prog 92 = true := by kernel_rfl
abbrev t_func_sl18Rd_iClause_iTerm : Nat := 93
theorem co_func_sl18Rd_iClause_iTerm : Tryz.prog.cellsOf 93 = 1 := by kernel_rfl
theorem sc_func_sl18Rd_iClause_iTerm : isSc Tryz.prog 93 = true := by kernel_rfl
abbrev t_func_sl18Rd_iTerm_iTerm : Nat := 94
theorem co_func_sl18Rd_iTerm_iTerm : Tryz.prog.cellsOf 94 = 1 := by kernel_rfl
theorem sc_func_sl18Rd_iTerm_iTerm : isSc Tryz.prog 94 = true := by kernel_rfl
abbrev t_func_iPred_iTerm_iPred : Nat := 95
theorem co_func_iPred_iTerm_iPred : Tryz.prog.cellsOf 95 = 1 := by kernel_rfl
theorem sc_func_iPred_iTerm_iPred : isSc Tryz.prog 95 = true := by kernel_rfl
abbrev t_func_int_int_int_bool : Nat := 96
theorem co_func_int_int_int_bool : Tryz.prog.cellsOf 96 = 1 := by kernel_rfl
theorem sc_func_int_int_int_bool : isSc Tryz.prog 96 = true := by kernel_rfl
abbrev t_func_int_func_int_bool_bool : Nat := 97
theorem co_func_int_func_int_bool_bool : Tryz.prog.cellsOf 97 = 1 := by kernel_rfl
theorem sc_func_int_func_int_bool_bool : isSc Tryz.prog 97 = true := by kernel_rfl
abbrev t_func_int_bool : Nat := 98
theorem co_func_int_bool : Tryz.prog.cellsOf 98 = 1 := by kernel_rfl
theorem sc_func_int_bool : isSc Tryz.prog 98 = true := by kernel_rfl
abbrev t_iClause_bool_bool : Nat := 99
abbrev t_func_iClause_iClause_iClause_bool_bool : Nat := 100
theorem co_func_iClause_iClause_iClause_bool_bool : Tryz.prog.cellsOf 100 = 1 := by kernel_rfl
theorem sc_func_iClause_iClause_iClause_bool_bool : isSc Tryz.prog 100 = true := by kernel_rfl
abbrev t_sl18Rd : Nat := 102
theorem co_sl18Rd : Tryz.prog.cellsOf 102 = 2 := by kernel_rfl
theorem fl_sl18Rd : flds Tryz.prog 102 = some [(0, 22), (1, 3)] := by kernel_rfl
theorem ag_sl18Rd : aggN Tryz.prog 102 = some 2 := by kernel_rfl
theorem zo_sl18Rd : zeroOf Tryz.prog 102 = some (.agg #[(.slice none 0 0), (.int .i64 0)]) := by kernel_rfl
theorem fo_sl18Rd_0 : fieldOff Tryz.prog 102 0 = some 0 := by kernel_rfl
theorem fo_sl18Rd_1 : fieldOff Tryz.prog 102 1 = some 1 := by kernel_rfl
abbrev t_func_string_iTerm_iTerm : Nat := 103
theorem co_func_string_iTerm_iTerm : Tryz.prog.cellsOf 103 = 1 := by kernel_rfl
theorem sc_func_string_iTerm_iTerm : isSc Tryz.prog 103 = true := by kernel_rfl
abbrev t_func_iClause_func_iClause_bool_int : Nat := 104
theorem co_func_iClause_func_iClause_bool_int : Tryz.prog.cellsOf 104 = 1 := by kernel_rfl
theorem sc_func_iClause_func_iClause_bool_int : isSc Tryz.prog 104 = true := by kernel_rfl
abbrev t_func_string_string : Nat := 105
theorem co_func_string_string : Tryz.prog.cellsOf 105 = 1 := by kernel_rfl
theorem sc_func_string_string : isSc Tryz.prog 105 = true := by kernel_rfl
abbrev t_func_sl18Rd_int_iTerm : Nat := 106
theorem co_func_sl18Rd_int_iTerm : Tryz.prog.cellsOf 106 = 1 := by kernel_rfl
theorem sc_func_sl18Rd_int_iTerm : isSc Tryz.prog 106 = true := by kernel_rfl
abbrev t_func_sl18Rd_iTerm_iTerm_107 : Nat := 107
theorem co_func_sl18Rd_iTerm_iTerm_107 : Tryz.prog.cellsOf 107 = 1 := by kernel_rfl
theorem sc_func_sl18Rd_iTerm_iTerm_107 : isSc Tryz.prog 107 = true := by kernel_rfl
abbrev t_func_sl18Rd_iTerm : Nat := 108
theorem co_func_sl18Rd_iTerm : Tryz.prog.cellsOf 108 = 1 := by kernel_rfl
theorem sc_func_sl18Rd_iTerm : isSc Tryz.prog 108 = true := by kernel_rfl
abbrev t_iTerm_bool : Nat := 109
abbrev t_func_iTerm_int_int_bool : Nat := 110
theorem co_func_iTerm_int_int_bool : Tryz.prog.cellsOf 110 = 1 := by kernel_rfl
theorem sc_func_iTerm_int_int_bool : isSc Tryz.prog 110 = true := by kernel_rfl
abbrev t_Pint : Nat := 111
theorem co_Pint : Tryz.prog.cellsOf 111 = 1 := by kernel_rfl
theorem sc_Pint : isSc Tryz.prog 111 = true := by kernel_rfl
theorem zo_Pint : zeroOf Tryz.prog 111 = some (.pointer none) := by kernel_rfl
abbrev t_func_string_bool : Nat := 112
theorem co_func_string_bool : Tryz.prog.cellsOf 112 = 1 := by kernel_rfl
theorem sc_func_string_bool : isSc Tryz.prog 112 = true := by kernel_rfl
abbrev t_func_iTerm_func_iTerm_bool_bool : Nat := 113
theorem co_func_iTerm_func_iTerm_bool_bool : Tryz.prog.cellsOf 113 = 1 := by kernel_rfl
theorem sc_func_iTerm_func_iTerm_bool_bool : isSc Tryz.prog 113 = true := by kernel_rfl
abbrev t_func_string_uint8_string : Nat := 114
theorem co_func_string_uint8_string : Tryz.prog.cellsOf 114 = 1 := by kernel_rfl
theorem sc_func_string_uint8_string : isSc Tryz.prog 114 = true := by kernel_rfl
abbrev t_func_string_iClause_bool_115 : Nat := 115
theorem co_func_string_iClause_bool_115 : Tryz.prog.cellsOf 115 = 1 := by kernel_rfl
theorem sc_func_string_iClause_bool_115 : isSc Tryz.prog 115 = true := by kernel_rfl
abbrev t_func_iPred_iPred_int : Nat := 116
theorem co_func_iPred_iPred_int : Tryz.prog.cellsOf 116 = 1 := by kernel_rfl
theorem sc_func_iPred_iPred_int : isSc Tryz.prog 116 = true := by kernel_rfl
abbrev t_func_iTerm_int : Nat := 117
theorem co_func_iTerm_int : Tryz.prog.cellsOf 117 = 1 := by kernel_rfl
theorem sc_func_iTerm_int : isSc Tryz.prog 117 = true := by kernel_rfl
abbrev t_func_iTerm_func_int_iTerm_iTerm : Nat := 118
theorem co_func_iTerm_func_int_iTerm_iTerm : Tryz.prog.cellsOf 118 = 1 := by kernel_rfl
theorem sc_func_iTerm_func_int_iTerm_iTerm : isSc Tryz.prog 118 = true := by kernel_rfl
abbrev t_func_int_iTerm : Nat := 119
theorem co_func_int_iTerm : Tryz.prog.cellsOf 119 = 1 := by kernel_rfl
theorem sc_func_int_iTerm : isSc Tryz.prog 119 = true := by kernel_rfl
abbrev t_func_int_int_int : Nat := 120
theorem co_func_int_int_int : Tryz.prog.cellsOf 120 = 1 := by kernel_rfl
theorem sc_func_int_int_int : isSc Tryz.prog 120 = true := by kernel_rfl
abbrev t_func_string : Nat := 121
theorem co_func_string : Tryz.prog.cellsOf 121 = 1 := by kernel_rfl
theorem sc_func_string : isSc Tryz.prog 121 = true := by kernel_rfl
abbrev t_SSstring : Nat := 122
theorem co_SSstring : Tryz.prog.cellsOf 122 = 1 := by kernel_rfl
theorem sc_SSstring : isSc Tryz.prog 122 = true := by kernel_rfl
theorem zo_SSstring : zeroOf Tryz.prog 122 = some (.slice none 0 0) := by kernel_rfl
theorem mk_SSstring : mkOf Tryz.prog 122 = some (82, 1, 24, (.slice none 0 0)) := by kernel_rfl
theorem sl_SSstring : sliceOf Tryz.prog 122 = some (82, 1) := by kernel_rfl
abbrev t_func_sl18Rd_iTerm_123 : Nat := 123
theorem co_func_sl18Rd_iTerm_123 : Tryz.prog.cellsOf 123 = 1 := by kernel_rfl
theorem sc_func_sl18Rd_iTerm_123 : isSc Tryz.prog 123 = true := by kernel_rfl
abbrev t_iTerm_bool_124 : Nat := 124
abbrev t_func_string_iTerm_bool : Nat := 125
theorem co_func_string_iTerm_bool : Tryz.prog.cellsOf 125 = 1 := by kernel_rfl
theorem sc_func_string_iTerm_bool : isSc Tryz.prog 125 = true := by kernel_rfl
abbrev t_func_int_int_126 : Nat := 126
theorem co_func_int_int_126 : Tryz.prog.cellsOf 126 = 1 := by kernel_rfl
theorem sc_func_int_int_126 : isSc Tryz.prog 126 = true := by kernel_rfl
abbrev t_func_int_func_int_bool_int : Nat := 127
theorem co_func_int_func_int_bool_int : Tryz.prog.cellsOf 127 = 1 := by kernel_rfl
theorem sc_func_int_func_int_bool_int : isSc Tryz.prog 127 = true := by kernel_rfl
abbrev t_Pistore : Nat := 128
theorem co_Pistore : Tryz.prog.cellsOf 128 = 1 := by kernel_rfl
theorem sc_Pistore : isSc Tryz.prog 128 = true := by kernel_rfl
theorem zo_Pistore : zeroOf Tryz.prog 128 = some (.pointer none) := by kernel_rfl
abbrev t_func_istore : Nat := 129
theorem co_func_istore : Tryz.prog.cellsOf 129 = 1 := by kernel_rfl
theorem sc_func_istore : isSc Tryz.prog 129 = true := by kernel_rfl
abbrev t_func_iTerm_iTerm_bool_130 : Nat := 130
theorem co_func_iTerm_iTerm_bool_130 : Tryz.prog.cellsOf 130 = 1 := by kernel_rfl
theorem sc_func_iTerm_iTerm_bool_130 : isSc Tryz.prog 130 = true := by kernel_rfl
abbrev t_func_iTerm_int_bool : Nat := 131
theorem co_func_iTerm_int_bool : Tryz.prog.cellsOf 131 = 1 := by kernel_rfl
theorem sc_func_iTerm_int_bool : isSc Tryz.prog 131 = true := by kernel_rfl
abbrev t_func_iTerm_int_int : Nat := 132
theorem co_func_iTerm_int_int : Tryz.prog.cellsOf 132 = 1 := by kernel_rfl
theorem sc_func_iTerm_int_int : isSc Tryz.prog 132 = true := by kernel_rfl
abbrev t_func_string_int_bool : Nat := 133
theorem co_func_string_int_bool : Tryz.prog.cellsOf 133 = 1 := by kernel_rfl
theorem sc_func_string_int_bool : isSc Tryz.prog 133 = true := by kernel_rfl
abbrev t_func_string_int : Nat := 134
theorem co_func_string_int : Tryz.prog.cellsOf 134 = 1 := by kernel_rfl
theorem sc_func_string_int : isSc Tryz.prog 134 = true := by kernel_rfl
abbrev t_int_bool : Nat := 135
abbrev t_func_string_int_bool_136 : Nat := 136
theorem co_func_string_int_bool_136 : Tryz.prog.cellsOf 136 = 1 := by kernel_rfl
theorem sc_func_string_int_bool_136 : isSc Tryz.prog 136 = true := by kernel_rfl
abbrev t_func_iTerm_func_iTerm_bool_int : Nat := 137
theorem co_func_iTerm_func_iTerm_bool_int : Tryz.prog.cellsOf 137 = 1 := by kernel_rfl
theorem sc_func_iTerm_func_iTerm_bool_int : isSc Tryz.prog 137 = true := by kernel_rfl
abbrev t_iTerm_int : Nat := 138
abbrev t_func_string_int_int_int_iTerm_int : Nat := 139
theorem co_func_string_int_int_int_iTerm_int : Tryz.prog.cellsOf 139 = 1 := by kernel_rfl
theorem sc_func_string_int_int_int_iTerm_int : isSc Tryz.prog 139 = true := by kernel_rfl
abbrev t_func_string_int_uint8_bool : Nat := 140
theorem co_func_string_int_uint8_bool : Tryz.prog.cellsOf 140 = 1 := by kernel_rfl
theorem sc_func_string_int_uint8_bool : isSc Tryz.prog 140 = true := by kernel_rfl
abbrev t_iTerm_int_141 : Nat := 141
abbrev t_func_string_int_iTerm_int : Nat := 142
theorem co_func_string_int_iTerm_int : Tryz.prog.cellsOf 142 = 1 := by kernel_rfl
theorem sc_func_string_int_iTerm_int : isSc Tryz.prog 142 = true := by kernel_rfl
abbrev t_func_iClause_string : Nat := 143
theorem co_func_iClause_string : Tryz.prog.cellsOf 143 = 1 := by kernel_rfl
theorem sc_func_iClause_string : isSc Tryz.prog 143 = true := by kernel_rfl
abbrev t_func_int_iTerm_int : Nat := 144
theorem co_func_int_iTerm_int : Tryz.prog.cellsOf 144 = 1 := by kernel_rfl
theorem sc_func_int_iTerm_int : isSc Tryz.prog 144 = true := by kernel_rfl
abbrev t_func_iTerm_int_iTerm_145 : Nat := 145
theorem co_func_iTerm_int_iTerm_145 : Tryz.prog.cellsOf 145 = 1 := by kernel_rfl
theorem sc_func_iTerm_int_iTerm_145 : isSc Tryz.prog 145 = true := by kernel_rfl
abbrev t_func_iTerm_int_int_146 : Nat := 146
theorem co_func_iTerm_int_int_146 : Tryz.prog.cellsOf 146 = 1 := by kernel_rfl
theorem sc_func_iTerm_int_int_146 : isSc Tryz.prog 146 = true := by kernel_rfl
abbrev t_istore : Nat := 148
theorem co_istore : Tryz.prog.cellsOf 148 = 2 := by kernel_rfl
theorem fl_istore : flds Tryz.prog 148 = some [(0, 77), (1, 63)] := by kernel_rfl
theorem ag_istore : aggN Tryz.prog 148 = some 2 := by kernel_rfl
theorem zo_istore : zeroOf Tryz.prog 148 = some (.agg #[(.map none), (.slice none 0 0)]) := by kernel_rfl
theorem fo_istore_0 : fieldOff Tryz.prog 148 0 = some 0 := by kernel_rfl
theorem fo_istore_1 : fieldOff Tryz.prog 148 1 = some 1 := by kernel_rfl
abbrev t_func_int_iTerm_bool : Nat := 149
theorem co_func_int_iTerm_bool : Tryz.prog.cellsOf 149 = 1 := by kernel_rfl
theorem sc_func_int_iTerm_bool : isSc Tryz.prog 149 = true := by kernel_rfl
abbrev t_func_iTerm_int_int_iTerm_bool : Nat := 150
theorem co_func_iTerm_int_int_iTerm_bool : Tryz.prog.cellsOf 150 = 1 := by kernel_rfl
theorem sc_func_iTerm_int_int_iTerm_bool : isSc Tryz.prog 150 = true := by kernel_rfl
abbrev t_func_string_string_bool : Nat := 151
theorem co_func_string_string_bool : Tryz.prog.cellsOf 151 = 1 := by kernel_rfl
theorem sc_func_string_string_bool : isSc Tryz.prog 151 = true := by kernel_rfl
abbrev t_func_string_int_int_iTerm_int : Nat := 152
theorem co_func_string_int_int_iTerm_int : Tryz.prog.cellsOf 152 = 1 := by kernel_rfl
theorem sc_func_string_int_int_iTerm_int : isSc Tryz.prog 152 = true := by kernel_rfl
abbrev t_string_int : Nat := 153
abbrev t_func_string_int_string_int : Nat := 154
theorem co_func_string_int_string_int : Tryz.prog.cellsOf 154 = 1 := by kernel_rfl
theorem sc_func_string_int_string_int : isSc Tryz.prog 154 = true := by kernel_rfl
abbrev t_func_int_iTerm_map_int_bool_bool : Nat := 155
theorem co_func_int_iTerm_map_int_bool_bool : Tryz.prog.cellsOf 155 = 1 := by kernel_rfl
theorem sc_func_int_iTerm_map_int_bool_bool : isSc Tryz.prog 155 = true := by kernel_rfl
abbrev t_Mint_bool : Nat := 156
theorem co_Mint_bool : Tryz.prog.cellsOf 156 = 1 := by kernel_rfl
theorem sc_Mint_bool : isSc Tryz.prog 156 = true := by kernel_rfl
theorem zo_Mint_bool : zeroOf Tryz.prog 156 = some (.map none) := by kernel_rfl
theorem un_Mint_bool : Tryz.prog.underlying 156 = some (.map 3 4) := by kernel_rfl
abbrev t_func_string_string_int : Nat := 157
theorem co_func_string_string_int : Tryz.prog.cellsOf 157 = 1 := by kernel_rfl
theorem sc_func_string_string_int : isSc Tryz.prog 157 = true := by kernel_rfl
abbrev t_func_int_iTerm_int_158 : Nat := 158
theorem co_func_int_iTerm_int_158 : Tryz.prog.cellsOf 158 = 1 := by kernel_rfl
theorem sc_func_int_iTerm_int_158 : isSc Tryz.prog 158 = true := by kernel_rfl
abbrev t_func_string_int_iTerm_int_159 : Nat := 159
theorem co_func_string_int_iTerm_int_159 : Tryz.prog.cellsOf 159 = 1 := by kernel_rfl
theorem sc_func_string_int_iTerm_int_159 : isSc Tryz.prog 159 = true := by kernel_rfl
abbrev t_func_string_int_int_uint8_uint8_iTerm_int : Nat := 160
theorem co_func_string_int_int_uint8_uint8_iTerm_int : Tryz.prog.cellsOf 160 = 1 := by kernel_rfl
theorem sc_func_string_int_int_uint8_uint8_iTerm_int : isSc Tryz.prog 160 = true := by kernel_rfl
abbrev t_func_iTerm_string : Nat := 161
theorem co_func_iTerm_string : Tryz.prog.cellsOf 161 = 1 := by kernel_rfl
theorem sc_func_iTerm_string : isSc Tryz.prog 161 = true := by kernel_rfl
abbrev t_func_iTerm_iTerm_iTerm : Nat := 162
theorem co_func_iTerm_iTerm_iTerm : Tryz.prog.cellsOf 162 = 1 := by kernel_rfl
theorem sc_func_iTerm_iTerm_iTerm : isSc Tryz.prog 162 = true := by kernel_rfl
abbrev t_func_iTerm_int_string : Nat := 163
theorem co_func_iTerm_int_string : Tryz.prog.cellsOf 163 = 1 := by kernel_rfl
theorem sc_func_iTerm_int_string : isSc Tryz.prog 163 = true := by kernel_rfl
abbrev t_func_string_string_164 : Nat := 164
theorem co_func_string_string_164 : Tryz.prog.cellsOf 164 = 1 := by kernel_rfl
theorem sc_func_string_string_164 : isSc Tryz.prog 164 = true := by kernel_rfl
abbrev t_func_iTerm_string_165 : Nat := 165
theorem co_func_iTerm_string_165 : Tryz.prog.cellsOf 165 = 1 := by kernel_rfl
theorem sc_func_iTerm_string_165 : isSc Tryz.prog 165 = true := by kernel_rfl
abbrev t_func_int_string : Nat := 166
theorem co_func_int_string : Tryz.prog.cellsOf 166 = 1 := by kernel_rfl
theorem sc_func_int_string : isSc Tryz.prog 166 = true := by kernel_rfl
abbrev t_func_string_167 : Nat := 167
theorem co_func_string_167 : Tryz.prog.cellsOf 167 = 1 := by kernel_rfl
theorem sc_func_string_167 : isSc Tryz.prog 167 = true := by kernel_rfl
abbrev t_func_int : Nat := 173
theorem co_func_int : Tryz.prog.cellsOf 173 = 1 := by kernel_rfl
theorem sc_func_int : isSc Tryz.prog 173 = true := by kernel_rfl
abbrev t_uint32 : Nat := 174
theorem co_uint32 : Tryz.prog.cellsOf 174 = 1 := by kernel_rfl
theorem sc_uint32 : isSc Tryz.prog 174 = true := by kernel_rfl
theorem zo_uint32 : zeroOf Tryz.prog 174 = some (.int .u32 0) := by kernel_rfl
theorem un_uint32 : Tryz.prog.underlying 174 = some (.int .u32) := by kernel_rfl
abbrev t_func_unsafe_Pointer_unsafe_Pointer_bool : Nat := 177
theorem co_func_unsafe_Pointer_unsafe_Pointer_bool : Tryz.prog.cellsOf 177 = 1 := by kernel_rfl
theorem sc_func_unsafe_Pointer_unsafe_Pointer_bool : isSc Tryz.prog 177 = true := by kernel_rfl
abbrev t_Puint8 : Nat := 178
theorem co_Puint8 : Tryz.prog.cellsOf 178 = 1 := by kernel_rfl
theorem sc_Puint8 : isSc Tryz.prog 178 = true := by kernel_rfl
theorem zo_Puint8 : zeroOf Tryz.prog 178 = some (.pointer none) := by kernel_rfl
abbrev t_func_uint64 : Nat := 183
theorem co_func_uint64 : Tryz.prog.cellsOf 183 = 1 := by kernel_rfl
theorem sc_func_uint64 : isSc Tryz.prog 183 = true := by kernel_rfl
abbrev t_func_int_184 : Nat := 184
theorem co_func_int_184 : Tryz.prog.cellsOf 184 = 1 := by kernel_rfl
theorem sc_func_int_184 : isSc Tryz.prog 184 = true := by kernel_rfl
abbrev t_uint64 : Nat := 186
theorem co_uint64 : Tryz.prog.cellsOf 186 = 1 := by kernel_rfl
theorem sc_uint64 : isSc Tryz.prog 186 = true := by kernel_rfl
theorem zo_uint64 : zeroOf Tryz.prog 186 = some (.int .u64 0) := by kernel_rfl
theorem un_uint64 : Tryz.prog.underlying 186 = some (.int .u64) := by kernel_rfl
abbrev n_l_FnPredsOf : Nat := 3
theorem fn_l_FnPredsOf : Tryz.prog.funcs[3]? = some Tryz.f3 := Tryz.func3
theorem nm_l_FnPredsOf : (Tryz.f3.name == "runtime.NumGoroutine" || Tryz.f3.body.isNone) = false := by kernel_rfl
abbrev n_l_FnSubsumedClause : Nat := 4
theorem fn_l_FnSubsumedClause : Tryz.prog.funcs[4]? = some Tryz.f4 := Tryz.func4
theorem nm_l_FnSubsumedClause : (Tryz.f4.name == "runtime.NumGoroutine" || Tryz.f4.body.isNone) = false := by kernel_rfl
abbrev n_l_FnSubsumedFact : Nat := 5
theorem fn_l_FnSubsumedFact : Tryz.prog.funcs[5]? = some Tryz.f5 := Tryz.func5
theorem nm_l_FnSubsumedFact : (Tryz.f5.name == "runtime.NumGoroutine" || Tryz.f5.body.isNone) = false := by kernel_rfl
abbrev n_l_FnMoveTwice : Nat := 6
theorem fn_l_FnMoveTwice : Tryz.prog.funcs[6]? = some Tryz.f6 := Tryz.func6
theorem nm_l_FnMoveTwice : (Tryz.f6.name == "runtime.NumGoroutine" || Tryz.f6.body.isNone) = false := by kernel_rfl
abbrev n_l_FnRecursivePred : Nat := 7
theorem fn_l_FnRecursivePred : Tryz.prog.funcs[7]? = some Tryz.f7 := Tryz.func7
theorem nm_l_FnRecursivePred : (Tryz.f7.name == "runtime.NumGoroutine" || Tryz.f7.body.isNone) = false := by kernel_rfl
abbrev n_l_FnRenumberClause : Nat := 8
theorem fn_l_FnRenumberClause : Tryz.prog.funcs[8]? = some Tryz.f8 := Tryz.func8
theorem nm_l_FnRenumberClause : (Tryz.f8.name == "runtime.NumGoroutine" || Tryz.f8.body.isNone) = false := by kernel_rfl
abbrev n_l_FnCallsOf : Nat := 9
theorem fn_l_FnCallsOf : Tryz.prog.funcs[9]? = some Tryz.f9 := Tryz.func9
theorem nm_l_FnCallsOf : (Tryz.f9.name == "runtime.NumGoroutine" || Tryz.f9.body.isNone) = false := by kernel_rfl
abbrev n_l_FnReachMore : Nat := 10
theorem fn_l_FnReachMore : Tryz.prog.funcs[10]? = some Tryz.f10 := Tryz.func10
theorem nm_l_FnReachMore : (Tryz.f10.name == "runtime.NumGoroutine" || Tryz.f10.body.isNone) = false := by kernel_rfl
abbrev n_l_FnReachOf : Nat := 11
theorem fn_l_FnReachOf : Tryz.prog.funcs[11]? = some Tryz.f11 := Tryz.func11
theorem nm_l_FnReachOf : (Tryz.f11.name == "runtime.NumGoroutine" || Tryz.f11.body.isNone) = false := by kernel_rfl
abbrev n_l_FnCanUnfold : Nat := 12
theorem fn_l_FnCanUnfold : Tryz.prog.funcs[12]? = some Tryz.f12 := Tryz.func12
theorem nm_l_FnCanUnfold : (Tryz.f12.name == "runtime.NumGoroutine" || Tryz.f12.body.isNone) = false := by kernel_rfl
abbrev n_s_DrawPredsOf : Nat := 13
theorem fn_s_DrawPredsOf : Tryz.prog.funcs[13]? = some Tryz.f13 := Tryz.func13
theorem nm_s_DrawPredsOf : (Tryz.f13.name == "runtime.NumGoroutine" || Tryz.f13.body.isNone) = false := by kernel_rfl
abbrev n_i_PredsOf : Nat := 14
theorem fn_i_PredsOf : Tryz.prog.funcs[14]? = some Tryz.f14 := Tryz.func14
theorem nm_i_PredsOf : (Tryz.f14.name == "runtime.NumGoroutine" || Tryz.f14.body.isNone) = false := by kernel_rfl
abbrev n_l_pgPreds : Nat := 15
theorem fn_l_pgPreds : Tryz.prog.funcs[15]? = some Tryz.f15 := Tryz.func15
theorem nm_l_pgPreds : (Tryz.f15.name == "runtime.NumGoroutine" || Tryz.f15.body.isNone) = false := by kernel_rfl
abbrev n_s_PredsOf : Nat := 16
theorem fn_s_PredsOf : Tryz.prog.funcs[16]? = some Tryz.f16 := Tryz.func16
theorem nm_s_PredsOf : (Tryz.f16.name == "runtime.NumGoroutine" || Tryz.f16.body.isNone) = false := by kernel_rfl
abbrev n_i_ProgramValid : Nat := 17
theorem fn_i_ProgramValid : Tryz.prog.funcs[17]? = some Tryz.f17 := Tryz.func17
theorem nm_i_ProgramValid : (Tryz.f17.name == "runtime.NumGoroutine" || Tryz.f17.body.isNone) = false := by kernel_rfl
abbrev n_l_pgPred : Nat := 18
theorem fn_l_pgPred : Tryz.prog.funcs[18]? = some Tryz.f18 := Tryz.func18
theorem nm_l_pgPred : (Tryz.f18.name == "runtime.NumGoroutine" || Tryz.f18.body.isNone) = false := by kernel_rfl
abbrev n_s_DrawSubsumedClause : Nat := 19
theorem fn_s_DrawSubsumedClause : Tryz.prog.funcs[19]? = some Tryz.f19 := Tryz.func19
theorem nm_s_DrawSubsumedClause : (Tryz.f19.name == "runtime.NumGoroutine" || Tryz.f19.body.isNone) = false := by kernel_rfl
abbrev n_i_SubsumedClause : Nat := 20
theorem fn_i_SubsumedClause : Tryz.prog.funcs[20]? = some Tryz.f20 := Tryz.func20
theorem nm_i_SubsumedClause : (Tryz.f20.name == "runtime.NumGoroutine" || Tryz.f20.body.isNone) = false := by kernel_rfl
abbrev n_s_SubsumedClause : Nat := 21
theorem fn_s_SubsumedClause : Tryz.prog.funcs[21]? = some Tryz.f21 := Tryz.func21
theorem nm_s_SubsumedClause : (Tryz.f21.name == "runtime.NumGoroutine" || Tryz.f21.body.isNone) = false := by kernel_rfl
abbrev n_i_ClauseValid : Nat := 22
theorem fn_i_ClauseValid : Tryz.prog.funcs[22]? = some Tryz.f22 := Tryz.func22
theorem nm_i_ClauseValid : (Tryz.f22.name == "runtime.NumGoroutine" || Tryz.f22.body.isNone) = false := by kernel_rfl
abbrev n_i_InstanceOf : Nat := 23
theorem fn_i_InstanceOf : Tryz.prog.funcs[23]? = some Tryz.f23 := Tryz.func23
theorem nm_i_InstanceOf : (Tryz.f23.name == "runtime.NumGoroutine" || Tryz.f23.body.isNone) = false := by kernel_rfl
abbrev n_s_DrawMovePred : Nat := 24
theorem fn_s_DrawMovePred : Tryz.prog.funcs[24]? = some Tryz.f24 := Tryz.func24
theorem nm_s_DrawMovePred : (Tryz.f24.name == "runtime.NumGoroutine" || Tryz.f24.body.isNone) = false := by kernel_rfl
abbrev n_i_MovePred : Nat := 25
theorem fn_i_MovePred : Tryz.prog.funcs[25]? = some Tryz.f25 := Tryz.func25
theorem nm_i_MovePred : (Tryz.f25.name == "runtime.NumGoroutine" || Tryz.f25.body.isNone) = false := by kernel_rfl
abbrev n_s_MovePred : Nat := 26
theorem fn_s_MovePred : Tryz.prog.funcs[26]? = some Tryz.f26 := Tryz.func26
theorem nm_s_MovePred : (Tryz.f26.name == "runtime.NumGoroutine" || Tryz.f26.body.isNone) = false := by kernel_rfl
abbrev n_l_pgClauses : Nat := 27
theorem fn_l_pgClauses : Tryz.prog.funcs[27]? = some Tryz.f27 := Tryz.func27
theorem nm_l_pgClauses : (Tryz.f27.name == "runtime.NumGoroutine" || Tryz.f27.body.isNone) = false := by kernel_rfl
abbrev n_s_DrawRecursivePred : Nat := 28
theorem fn_s_DrawRecursivePred : Tryz.prog.funcs[28]? = some Tryz.f28 := Tryz.func28
theorem nm_s_DrawRecursivePred : (Tryz.f28.name == "runtime.NumGoroutine" || Tryz.f28.body.isNone) = false := by kernel_rfl
abbrev n_i_RecursivePred : Nat := 29
theorem fn_i_RecursivePred : Tryz.prog.funcs[29]? = some Tryz.f29 := Tryz.func29
theorem nm_i_RecursivePred : (Tryz.f29.name == "runtime.NumGoroutine" || Tryz.f29.body.isNone) = false := by kernel_rfl
abbrev n_s_RecursivePred : Nat := 30
theorem fn_s_RecursivePred : Tryz.prog.funcs[30]? = some Tryz.f30 := Tryz.func30
theorem nm_s_RecursivePred : (Tryz.f30.name == "runtime.NumGoroutine" || Tryz.f30.body.isNone) = false := by kernel_rfl
abbrev n_i_CallsOf : Nat := 31
theorem fn_i_CallsOf : Tryz.prog.funcs[31]? = some Tryz.f31 := Tryz.func31
theorem nm_i_CallsOf : (Tryz.f31.name == "runtime.NumGoroutine" || Tryz.f31.body.isNone) = false := by kernel_rfl
abbrev n_i_ReachOf : Nat := 32
theorem fn_i_ReachOf : Tryz.prog.funcs[32]? = some Tryz.f32 := Tryz.func32
theorem nm_i_ReachOf : (Tryz.f32.name == "runtime.NumGoroutine" || Tryz.f32.body.isNone) = false := by kernel_rfl
abbrev n_s_DrawRenumberClause : Nat := 33
theorem fn_s_DrawRenumberClause : Tryz.prog.funcs[33]? = some Tryz.f33 := Tryz.func33
theorem nm_s_DrawRenumberClause : (Tryz.f33.name == "runtime.NumGoroutine" || Tryz.f33.body.isNone) = false := by kernel_rfl
abbrev n_i_RenumberClause : Nat := 34
theorem fn_i_RenumberClause : Tryz.prog.funcs[34]? = some Tryz.f34 := Tryz.func34
theorem nm_i_RenumberClause : (Tryz.f34.name == "runtime.NumGoroutine" || Tryz.f34.body.isNone) = false := by kernel_rfl
abbrev n_s_RenumberClause : Nat := 35
theorem fn_s_RenumberClause : Tryz.prog.funcs[35]? = some Tryz.f35 := Tryz.func35
theorem nm_s_RenumberClause : (Tryz.f35.name == "runtime.NumGoroutine" || Tryz.f35.body.isNone) = false := by kernel_rfl
abbrev n_i_ClauseSame : Nat := 36
theorem fn_i_ClauseSame : Tryz.prog.funcs[36]? = some Tryz.f36 := Tryz.func36
theorem nm_i_ClauseSame : (Tryz.f36.name == "runtime.NumGoroutine" || Tryz.f36.body.isNone) = false := by kernel_rfl
abbrev n_i_VariantTerms : Nat := 37
theorem fn_i_VariantTerms : Tryz.prog.funcs[37]? = some Tryz.f37 := Tryz.func37
theorem nm_i_VariantTerms : (Tryz.f37.name == "runtime.NumGoroutine" || Tryz.f37.body.isNone) = false := by kernel_rfl
abbrev n_s_DrawCallsOf : Nat := 38
theorem fn_s_DrawCallsOf : Tryz.prog.funcs[38]? = some Tryz.f38 := Tryz.func38
theorem nm_s_DrawCallsOf : (Tryz.f38.name == "runtime.NumGoroutine" || Tryz.f38.body.isNone) = false := by kernel_rfl
abbrev n_s_CallsOf : Nat := 39
theorem fn_s_CallsOf : Tryz.prog.funcs[39]? = some Tryz.f39 := Tryz.func39
theorem nm_s_CallsOf : (Tryz.f39.name == "runtime.NumGoroutine" || Tryz.f39.body.isNone) = false := by kernel_rfl
abbrev n_i_UnknownGoals : Nat := 40
theorem fn_i_UnknownGoals : Tryz.prog.funcs[40]? = some Tryz.f40 := Tryz.func40
theorem nm_i_UnknownGoals : (Tryz.f40.name == "runtime.NumGoroutine" || Tryz.f40.body.isNone) = false := by kernel_rfl
abbrev n_s_DrawReachOf : Nat := 41
theorem fn_s_DrawReachOf : Tryz.prog.funcs[41]? = some Tryz.f41 := Tryz.func41
theorem nm_s_DrawReachOf : (Tryz.f41.name == "runtime.NumGoroutine" || Tryz.f41.body.isNone) = false := by kernel_rfl
abbrev n_s_ReachOf : Nat := 42
theorem fn_s_ReachOf : Tryz.prog.funcs[42]? = some Tryz.f42 := Tryz.func42
theorem nm_s_ReachOf : (Tryz.f42.name == "runtime.NumGoroutine" || Tryz.f42.body.isNone) = false := by kernel_rfl
abbrev n_i_QueryValid : Nat := 43
theorem fn_i_QueryValid : Tryz.prog.funcs[43]? = some Tryz.f43 := Tryz.func43
theorem nm_i_QueryValid : (Tryz.f43.name == "runtime.NumGoroutine" || Tryz.f43.body.isNone) = false := by kernel_rfl
abbrev n_s_DrawCanUnfold : Nat := 44
theorem fn_s_DrawCanUnfold : Tryz.prog.funcs[44]? = some Tryz.f44 := Tryz.func44
theorem nm_s_DrawCanUnfold : (Tryz.f44.name == "runtime.NumGoroutine" || Tryz.f44.body.isNone) = false := by kernel_rfl
abbrev n_i_CanUnfold : Nat := 45
theorem fn_i_CanUnfold : Tryz.prog.funcs[45]? = some Tryz.f45 := Tryz.func45
theorem nm_i_CanUnfold : (Tryz.f45.name == "runtime.NumGoroutine" || Tryz.f45.body.isNone) = false := by kernel_rfl
abbrev n_i_UnfoldClause : Nat := 46
theorem fn_i_UnfoldClause : Tryz.prog.funcs[46]? = some Tryz.f46 := Tryz.func46
theorem nm_i_UnfoldClause : (Tryz.f46.name == "runtime.NumGoroutine" || Tryz.f46.body.isNone) = false := by kernel_rfl
abbrev n_s_CanUnfold : Nat := 47
theorem fn_s_CanUnfold : Tryz.prog.funcs[47]? = some Tryz.f47 := Tryz.func47
theorem nm_s_CanUnfold : (Tryz.f47.name == "runtime.NumGoroutine" || Tryz.f47.body.isNone) = false := by kernel_rfl
abbrev n_i_ClausesFor : Nat := 48
theorem fn_i_ClausesFor : Tryz.prog.funcs[48]? = some Tryz.f48 := Tryz.func48
theorem nm_i_ClausesFor : (Tryz.f48.name == "runtime.NumGoroutine" || Tryz.f48.body.isNone) = false := by kernel_rfl
abbrev n_l_pgIn : Nat := 49
theorem fn_l_pgIn : Tryz.prog.funcs[49]? = some Tryz.f49 := Tryz.func49
theorem nm_l_pgIn : (Tryz.f49.name == "runtime.NumGoroutine" || Tryz.f49.body.isNone) = false := by kernel_rfl
abbrev n_s_l18Open : Nat := 50
theorem fn_s_l18Open : Tryz.prog.funcs[50]? = some Tryz.f50 := Tryz.func50
theorem nm_s_l18Open : (Tryz.f50.name == "runtime.NumGoroutine" || Tryz.f50.body.isNone) = false := by kernel_rfl
abbrev n_s_l4MutateAll : Nat := 51
theorem fn_s_l4MutateAll : Tryz.prog.funcs[51]? = some Tryz.f51 := Tryz.func51
theorem nm_s_l4MutateAll : (Tryz.f51.name == "runtime.NumGoroutine" || Tryz.f51.body.isNone) = false := by kernel_rfl
abbrev n_s_l14Two : Nat := 52
theorem fn_s_l14Two : Tryz.prog.funcs[52]? = some Tryz.f52 := Tryz.func52
theorem nm_s_l14Two : (Tryz.f52.name == "runtime.NumGoroutine" || Tryz.f52.body.isNone) = false := by kernel_rfl
abbrev n_i_addPred : Nat := 53
theorem fn_i_addPred : Tryz.prog.funcs[53]? = some Tryz.f53 := Tryz.func53
theorem nm_i_addPred : (Tryz.f53.name == "runtime.NumGoroutine" || Tryz.f53.body.isNone) = false := by kernel_rfl
abbrev n_i_pred : Nat := 54
theorem fn_i_pred : Tryz.prog.funcs[54]? = some Tryz.f54 := Tryz.func54
theorem nm_i_pred : (Tryz.f54.name == "runtime.NumGoroutine" || Tryz.f54.body.isNone) = false := by kernel_rfl
abbrev n_s_ProgramValid : Nat := 55
theorem fn_s_ProgramValid : Tryz.prog.funcs[55]? = some Tryz.f55 := Tryz.func55
theorem nm_s_ProgramValid : (Tryz.f55.name == "runtime.NumGoroutine" || Tryz.f55.body.isNone) = false := by kernel_rfl
abbrev n_s_l14Preds : Nat := 56
theorem fn_s_l14Preds : Tryz.prog.funcs[56]? = some Tryz.f56 := Tryz.func56
theorem nm_s_l14Preds : (Tryz.f56.name == "runtime.NumGoroutine" || Tryz.f56.body.isNone) = false := by kernel_rfl
abbrev n_x_ContainsFunc_Clause : Nat := 57
theorem fn_x_ContainsFunc_Clause : Tryz.prog.funcs[57]? = some Tryz.f57 := Tryz.func57
theorem nm_x_ContainsFunc_Clause : (Tryz.f57.name == "runtime.NumGoroutine" || Tryz.f57.body.isNone) = false := by kernel_rfl
abbrev n_i_ProgramValid_1 : Nat := 58
theorem fn_i_ProgramValid_1 : Tryz.prog.funcs[58]? = some Tryz.f58 := Tryz.func58
theorem nm_i_ProgramValid_1 : (Tryz.f58.name == "runtime.NumGoroutine" || Tryz.f58.body.isNone) = false := by kernel_rfl
abbrev n_s_l4Clause : Nat := 59
theorem fn_s_l4Clause : Tryz.prog.funcs[59]? = some Tryz.f59 := Tryz.func59
theorem nm_s_l4Clause : (Tryz.f59.name == "runtime.NumGoroutine" || Tryz.f59.body.isNone) = false := by kernel_rfl
abbrev n_s_l15Fresh : Nat := 60
theorem fn_s_l15Fresh : Tryz.prog.funcs[60]? = some Tryz.f60 := Tryz.func60
theorem nm_s_l15Fresh : (Tryz.f60.name == "runtime.NumGoroutine" || Tryz.f60.body.isNone) = false := by kernel_rfl
abbrev n_s_l18Rd_pick : Nat := 61
theorem fn_s_l18Rd_pick : Tryz.prog.funcs[61]? = some Tryz.f61 := Tryz.func61
theorem nm_s_l18Rd_pick : (Tryz.f61.name == "runtime.NumGoroutine" || Tryz.f61.body.isNone) = false := by kernel_rfl
abbrev n_s_l4Mutate : Nat := 62
theorem fn_s_l4Mutate : Tryz.prog.funcs[62]? = some Tryz.f62 := Tryz.func62
theorem nm_s_l4Mutate : (Tryz.f62.name == "runtime.NumGoroutine" || Tryz.f62.body.isNone) = false := by kernel_rfl
abbrev n_i_instance : Nat := 63
theorem fn_i_instance : Tryz.prog.funcs[63]? = some Tryz.f63 := Tryz.func63
theorem nm_i_instance : (Tryz.f63.name == "runtime.NumGoroutine" || Tryz.f63.body.isNone) = false := by kernel_rfl
abbrev n_s_ClauseValid : Nat := 64
theorem fn_s_ClauseValid : Tryz.prog.funcs[64]? = some Tryz.f64 := Tryz.func64
theorem nm_s_ClauseValid : (Tryz.f64.name == "runtime.NumGoroutine" || Tryz.f64.body.isNone) = false := by kernel_rfl
abbrev n_s_l3Match : Nat := 65
theorem fn_s_l3Match : Tryz.prog.funcs[65]? = some Tryz.f65 := Tryz.func65
theorem nm_s_l3Match : (Tryz.f65.name == "runtime.NumGoroutine" || Tryz.f65.body.isNone) = false := by kernel_rfl
abbrev n_i_TermValid : Nat := 66
theorem fn_i_TermValid : Tryz.prog.funcs[66]? = some Tryz.f66 := Tryz.func66
theorem nm_i_TermValid : (Tryz.f66.name == "runtime.NumGoroutine" || Tryz.f66.body.isNone) = false := by kernel_rfl
abbrev n_i_isPlain : Nat := 67
theorem fn_i_isPlain : Tryz.prog.funcs[67]? = some Tryz.f67 := Tryz.func67
theorem nm_i_isPlain : (Tryz.f67.name == "runtime.NumGoroutine" || Tryz.f67.body.isNone) = false := by kernel_rfl
abbrev n_i_goalsValid : Nat := 68
theorem fn_i_goalsValid : Tryz.prog.funcs[68]? = some Tryz.f68 := Tryz.func68
theorem nm_i_goalsValid : (Tryz.f68.name == "runtime.NumGoroutine" || Tryz.f68.body.isNone) = false := by kernel_rfl
abbrev n_i_ownProgram : Nat := 69
theorem fn_i_ownProgram : Tryz.prog.funcs[69]? = some Tryz.f69 := Tryz.func69
theorem nm_i_ownProgram : (Tryz.f69.name == "runtime.NumGoroutine" || Tryz.f69.body.isNone) = false := by kernel_rfl
abbrev n_s_l14Of : Nat := 70
theorem fn_s_l14Of : Tryz.prog.funcs[70]? = some Tryz.f70 := Tryz.func70
theorem nm_s_l14Of : (Tryz.f70.name == "runtime.NumGoroutine" || Tryz.f70.body.isNone) = false := by kernel_rfl
abbrev n_s_l14Copy : Nat := 71
theorem fn_s_l14Copy : Tryz.prog.funcs[71]? = some Tryz.f71 := Tryz.func71
theorem nm_s_l14Copy : (Tryz.f71.name == "runtime.NumGoroutine" || Tryz.f71.body.isNone) = false := by kernel_rfl
abbrev n_s_ParseProgram : Nat := 72
theorem fn_s_ParseProgram : Tryz.prog.funcs[72]? = some Tryz.f72 := Tryz.func72
theorem nm_s_ParseProgram : (Tryz.f72.name == "runtime.NumGoroutine" || Tryz.f72.body.isNone) = false := by kernel_rfl
abbrev n_x_Contains_Pred : Nat := 73
theorem fn_x_Contains_Pred : Tryz.prog.funcs[73]? = some Tryz.f73 := Tryz.func73
theorem nm_x_Contains_Pred : (Tryz.f73.name == "runtime.NumGoroutine" || Tryz.f73.body.isNone) = false := by kernel_rfl
abbrev n_i_reach : Nat := 74
theorem fn_i_reach : Tryz.prog.funcs[74]? = some Tryz.f74 := Tryz.func74
theorem nm_i_reach : (Tryz.f74.name == "runtime.NumGoroutine" || Tryz.f74.body.isNone) = false := by kernel_rfl
abbrev n_i_callsOf : Nat := 75
theorem fn_i_callsOf : Tryz.prog.funcs[75]? = some Tryz.f75 := Tryz.func75
theorem nm_i_callsOf : (Tryz.f75.name == "runtime.NumGoroutine" || Tryz.f75.body.isNone) = false := by kernel_rfl
abbrev n_s_l14Has : Nat := 76
theorem fn_s_l14Has : Tryz.prog.funcs[76]? = some Tryz.f76 := Tryz.func76
theorem nm_s_l14Has : (Tryz.f76.name == "runtime.NumGoroutine" || Tryz.f76.body.isNone) = false := by kernel_rfl
abbrev n_s_l14Reach : Nat := 77
theorem fn_s_l14Reach : Tryz.prog.funcs[77]? = some Tryz.f77 := Tryz.func77
theorem nm_s_l14Reach : (Tryz.f77.name == "runtime.NumGoroutine" || Tryz.f77.body.isNone) = false := by kernel_rfl
abbrev n_s_l14Calls : Nat := 78
theorem fn_s_l14Calls : Tryz.prog.funcs[78]? = some Tryz.f78 := Tryz.func78
theorem nm_s_l14Calls : (Tryz.f78.name == "runtime.NumGoroutine" || Tryz.f78.body.isNone) = false := by kernel_rfl
abbrev n_i_called : Nat := 79
theorem fn_i_called : Tryz.prog.funcs[79]? = some Tryz.f79 := Tryz.func79
theorem nm_i_called : (Tryz.f79.name == "runtime.NumGoroutine" || Tryz.f79.body.isNone) = false := by kernel_rfl
abbrev n_s_l3Shift : Nat := 80
theorem fn_s_l3Shift : Tryz.prog.funcs[80]? = some Tryz.f80 := Tryz.func80
theorem nm_s_l3Shift : (Tryz.f80.name == "runtime.NumGoroutine" || Tryz.f80.body.isNone) = false := by kernel_rfl
abbrev n_i_ownClause : Nat := 81
theorem fn_i_ownClause : Tryz.prog.funcs[81]? = some Tryz.f81 := Tryz.func81
theorem nm_i_ownClause : (Tryz.f81.name == "runtime.NumGoroutine" || Tryz.f81.body.isNone) = false := by kernel_rfl
abbrev n_i_numbered : Nat := 82
theorem fn_i_numbered : Tryz.prog.funcs[82]? = some Tryz.f82 := Tryz.func82
theorem nm_i_numbered : (Tryz.f82.name == "runtime.NumGoroutine" || Tryz.f82.body.isNone) = false := by kernel_rfl
abbrev n_s_l4Renumber : Nat := 83
theorem fn_s_l4Renumber : Tryz.prog.funcs[83]? = some Tryz.f83 := Tryz.func83
theorem nm_s_l4Renumber : (Tryz.f83.name == "runtime.NumGoroutine" || Tryz.f83.body.isNone) = false := by kernel_rfl
abbrev n_i_TermSame : Nat := 84
theorem fn_i_TermSame : Tryz.prog.funcs[84]? = some Tryz.f84 := Tryz.func84
theorem nm_i_TermSame : (Tryz.f84.name == "runtime.NumGoroutine" || Tryz.f84.body.isNone) = false := by kernel_rfl
abbrev n_x_EqualFunc_Term : Nat := 85
theorem fn_x_EqualFunc_Term : Tryz.prog.funcs[85]? = some Tryz.f85 := Tryz.func85
theorem nm_x_EqualFunc_Term : (Tryz.f85.name == "runtime.NumGoroutine" || Tryz.f85.body.isNone) = false := by kernel_rfl
abbrev n_i_renumbered : Nat := 86
theorem fn_i_renumbered : Tryz.prog.funcs[86]? = some Tryz.f86 := Tryz.func86
theorem nm_i_renumbered : (Tryz.f86.name == "runtime.NumGoroutine" || Tryz.f86.body.isNone) = false := by kernel_rfl
abbrev n_s_l14Pred : Nat := 87
theorem fn_s_l14Pred : Tryz.prog.funcs[87]? = some Tryz.f87 := Tryz.func87
theorem nm_s_l14Pred : (Tryz.f87.name == "runtime.NumGoroutine" || Tryz.f87.body.isNone) = false := by kernel_rfl
abbrev n_i_clausesFor : Nat := 88
theorem fn_i_clausesFor : Tryz.prog.funcs[88]? = some Tryz.f88 := Tryz.func88
theorem nm_i_clausesFor : (Tryz.f88.name == "runtime.NumGoroutine" || Tryz.f88.body.isNone) = false := by kernel_rfl
abbrev n_i_own : Nat := 89
theorem fn_i_own : Tryz.prog.funcs[89]? = some Tryz.f89 := Tryz.func89
theorem nm_i_own : (Tryz.f89.name == "runtime.NumGoroutine" || Tryz.f89.body.isNone) = false := by kernel_rfl
abbrev n_s_l6Pair : Nat := 90
theorem fn_s_l6Pair : Tryz.prog.funcs[90]? = some Tryz.f90 := Tryz.func90
theorem nm_s_l6Pair : (Tryz.f90.name == "runtime.NumGoroutine" || Tryz.f90.body.isNone) = false := by kernel_rfl
abbrev n_s_l4Program : Nat := 91
theorem fn_s_l4Program : Tryz.prog.funcs[91]? = some Tryz.f91 := Tryz.func91
theorem nm_s_l4Program : (Tryz.f91.name == "runtime.NumGoroutine" || Tryz.f91.body.isNone) = false := by kernel_rfl
abbrev n_s_l6MutateAll : Nat := 92
theorem fn_s_l6MutateAll : Tryz.prog.funcs[92]? = some Tryz.f92 := Tryz.func92
theorem nm_s_l6MutateAll : (Tryz.f92.name == "runtime.NumGoroutine" || Tryz.f92.body.isNone) = false := by kernel_rfl
abbrev n_s_QueryValid : Nat := 93
theorem fn_s_QueryValid : Tryz.prog.funcs[93]? = some Tryz.f93 := Tryz.func93
theorem nm_s_QueryValid : (Tryz.f93.name == "runtime.NumGoroutine" || Tryz.f93.body.isNone) = false := by kernel_rfl
abbrev n_s_l14Goals : Nat := 94
theorem fn_s_l14Goals : Tryz.prog.funcs[94]? = some Tryz.f94 := Tryz.func94
theorem nm_s_l14Goals : (Tryz.f94.name == "runtime.NumGoroutine" || Tryz.f94.body.isNone) = false := by kernel_rfl
abbrev n_s_DrawUnfoldClause : Nat := 95
theorem fn_s_DrawUnfoldClause : Tryz.prog.funcs[95]? = some Tryz.f95 := Tryz.func95
theorem nm_s_DrawUnfoldClause : (Tryz.f95.name == "runtime.NumGoroutine" || Tryz.f95.body.isNone) = false := by kernel_rfl
abbrev n_i_within : Nat := 96
theorem fn_i_within : Tryz.prog.funcs[96]? = some Tryz.f96 := Tryz.func96
theorem nm_i_within : (Tryz.f96.name == "runtime.NumGoroutine" || Tryz.f96.body.isNone) = false := by kernel_rfl
abbrev n_i_firstPlain : Nat := 97
theorem fn_i_firstPlain : Tryz.prog.funcs[97]? = some Tryz.f97 := Tryz.func97
theorem nm_i_firstPlain : (Tryz.f97.name == "runtime.NumGoroutine" || Tryz.f97.body.isNone) = false := by kernel_rfl
abbrev n_i_hasCut : Nat := 98
theorem fn_i_hasCut : Tryz.prog.funcs[98]? = some Tryz.f98 := Tryz.func98
theorem nm_i_hasCut : (Tryz.f98.name == "runtime.NumGoroutine" || Tryz.f98.body.isNone) = false := by kernel_rfl
abbrev n_x_Contains_int : Nat := 99
theorem fn_x_Contains_int : Tryz.prog.funcs[99]? = some Tryz.f99 := Tryz.func99
theorem nm_x_Contains_int : (Tryz.f99.name == "runtime.NumGoroutine" || Tryz.f99.body.isNone) = false := by kernel_rfl
abbrev n_x_ContainsFunc_int : Nat := 100
theorem fn_x_ContainsFunc_int : Tryz.prog.funcs[100]? = some Tryz.f100 := Tryz.func100
theorem nm_x_ContainsFunc_int : (Tryz.f100.name == "runtime.NumGoroutine" || Tryz.f100.body.isNone) = false := by kernel_rfl
abbrev n_i_CanUnfold_1 : Nat := 101
theorem fn_i_CanUnfold_1 : Tryz.prog.funcs[101]? = some Tryz.f101 := Tryz.func101
theorem nm_i_CanUnfold_1 : (Tryz.f101.name == "runtime.NumGoroutine" || Tryz.f101.body.isNone) = false := by kernel_rfl
abbrev n_i_resolvent : Nat := 102
theorem fn_i_resolvent : Tryz.prog.funcs[102]? = some Tryz.f102 := Tryz.func102
theorem nm_i_resolvent : (Tryz.f102.name == "runtime.NumGoroutine" || Tryz.f102.body.isNone) = false := by kernel_rfl
abbrev n_s_l15First : Nat := 103
theorem fn_s_l15First : Tryz.prog.funcs[103]? = some Tryz.f103 := Tryz.func103
theorem nm_s_l15First : (Tryz.f103.name == "runtime.NumGoroutine" || Tryz.f103.body.isNone) = false := by kernel_rfl
abbrev n_s_l4For : Nat := 104
theorem fn_s_l4For : Tryz.prog.funcs[104]? = some Tryz.f104 := Tryz.func104
theorem nm_s_l4For : (Tryz.f104.name == "runtime.NumGoroutine" || Tryz.f104.body.isNone) = false := by kernel_rfl
abbrev n_s_l15Cuts : Nat := 105
theorem fn_s_l15Cuts : Tryz.prog.funcs[105]? = some Tryz.f105 := Tryz.func105
theorem nm_s_l15Cuts : (Tryz.f105.name == "runtime.NumGoroutine" || Tryz.f105.body.isNone) = false := by kernel_rfl
abbrev n_s_l1Struct : Nat := 106
theorem fn_s_l1Struct : Tryz.prog.funcs[106]? = some Tryz.f106 := Tryz.func106
theorem nm_s_l1Struct : (Tryz.f106.name == "runtime.NumGoroutine" || Tryz.f106.body.isNone) = false := by kernel_rfl
abbrev n_s_l14Add : Nat := 107
theorem fn_s_l14Add : Tryz.prog.funcs[107]? = some Tryz.f107 := Tryz.func107
theorem nm_s_l14Add : (Tryz.f107.name == "runtime.NumGoroutine" || Tryz.f107.body.isNone) = false := by kernel_rfl
abbrev n_x_IndexFunc_Clause : Nat := 108
theorem fn_x_IndexFunc_Clause : Tryz.prog.funcs[108]? = some Tryz.f108 := Tryz.func108
theorem nm_x_IndexFunc_Clause : (Tryz.f108.name == "runtime.NumGoroutine" || Tryz.f108.body.isNone) = false := by kernel_rfl
abbrev n_s_l18Rd_of : Nat := 109
theorem fn_s_l18Rd_of : Tryz.prog.funcs[109]? = some Tryz.f109 := Tryz.func109
theorem nm_s_l18Rd_of : (Tryz.f109.name == "runtime.NumGoroutine" || Tryz.f109.body.isNone) = false := by kernel_rfl
abbrev n_s_l1Draw : Nat := 110
theorem fn_s_l1Draw : Tryz.prog.funcs[110]? = some Tryz.f110 := Tryz.func110
theorem nm_s_l1Draw : (Tryz.f110.name == "runtime.NumGoroutine" || Tryz.f110.body.isNone) = false := by kernel_rfl
abbrev n_s_l4Copy : Nat := 111
theorem fn_s_l4Copy : Tryz.prog.funcs[111]? = some Tryz.f111 := Tryz.func111
theorem nm_s_l4Copy : (Tryz.f111.name == "runtime.NumGoroutine" || Tryz.f111.body.isNone) = false := by kernel_rfl
abbrev n_s_l1Mutate : Nat := 112
theorem fn_s_l1Mutate : Tryz.prog.funcs[112]? = some Tryz.f112 := Tryz.func112
theorem nm_s_l1Mutate : (Tryz.f112.name == "runtime.NumGoroutine" || Tryz.f112.body.isNone) = false := by kernel_rfl
abbrev n_s_l1Some : Nat := 113
theorem fn_s_l1Some : Tryz.prog.funcs[113]? = some Tryz.f113 := Tryz.func113
theorem nm_s_l1Some : (Tryz.f113.name == "runtime.NumGoroutine" || Tryz.f113.body.isNone) = false := by kernel_rfl
abbrev n_s_GoalValid : Nat := 114
theorem fn_s_GoalValid : Tryz.prog.funcs[114]? = some Tryz.f114 := Tryz.func114
theorem nm_s_GoalValid : (Tryz.f114.name == "runtime.NumGoroutine" || Tryz.f114.body.isNone) = false := by kernel_rfl
abbrev n_s_TermValid : Nat := 115
theorem fn_s_TermValid : Tryz.prog.funcs[115]? = some Tryz.f115 := Tryz.func115
theorem nm_s_TermValid : (Tryz.f115.name == "runtime.NumGoroutine" || Tryz.f115.body.isNone) = false := by kernel_rfl
abbrev n_s_l4Plain : Nat := 116
theorem fn_s_l4Plain : Tryz.prog.funcs[116]? = some Tryz.f116 := Tryz.func116
theorem nm_s_l4Plain : (Tryz.f116.name == "runtime.NumGoroutine" || Tryz.f116.body.isNone) = false := by kernel_rfl
abbrev n_s_TermSame : Nat := 117
theorem fn_s_TermSame : Tryz.prog.funcs[117]? = some Tryz.f117 := Tryz.func117
theorem nm_s_TermSame : (Tryz.f117.name == "runtime.NumGoroutine" || Tryz.f117.body.isNone) = false := by kernel_rfl
abbrev n_i_scan : Nat := 118
theorem fn_i_scan : Tryz.prog.funcs[118]? = some Tryz.f118 := Tryz.func118
theorem nm_i_scan : (Tryz.f118.name == "runtime.NumGoroutine" || Tryz.f118.body.isNone) = false := by kernel_rfl
abbrev n_i_isLetters : Nat := 119
theorem fn_i_isLetters : Tryz.prog.funcs[119]? = some Tryz.f119 := Tryz.func119
theorem nm_i_isLetters : (Tryz.f119.name == "runtime.NumGoroutine" || Tryz.f119.body.isNone) = false := by kernel_rfl
abbrev n_i_isOp : Nat := 120
theorem fn_i_isOp : Tryz.prog.funcs[120]? = some Tryz.f120 := Tryz.func120
theorem nm_i_isOp : (Tryz.f120.name == "runtime.NumGoroutine" || Tryz.f120.body.isNone) = false := by kernel_rfl
abbrev n_i_isBuilt : Nat := 121
theorem fn_i_isBuilt : Tryz.prog.funcs[121]? = some Tryz.f121 := Tryz.func121
theorem nm_i_isBuilt : (Tryz.f121.name == "runtime.NumGoroutine" || Tryz.f121.body.isNone) = false := by kernel_rfl
abbrev n_x_ContainsFunc_Term : Nat := 122
theorem fn_x_ContainsFunc_Term : Tryz.prog.funcs[122]? = some Tryz.f122 := Tryz.func122
theorem nm_x_ContainsFunc_Term : (Tryz.f122.name == "runtime.NumGoroutine" || Tryz.f122.body.isNone) = false := by kernel_rfl
abbrev n_i_goalsValid_1 : Nat := 123
theorem fn_i_goalsValid_1 : Tryz.prog.funcs[123]? = some Tryz.f123 := Tryz.func123
theorem nm_i_goalsValid_1 : (Tryz.f123.name == "runtime.NumGoroutine" || Tryz.f123.body.isNone) = false := by kernel_rfl
abbrev n_i_GoalValid : Nat := 124
theorem fn_i_GoalValid : Tryz.prog.funcs[124]? = some Tryz.f124 := Tryz.func124
theorem nm_i_GoalValid : (Tryz.f124.name == "runtime.NumGoroutine" || Tryz.f124.body.isNone) = false := by kernel_rfl
abbrev n_s_l18Cut : Nat := 125
theorem fn_s_l18Cut : Tryz.prog.funcs[125]? = some Tryz.f125 := Tryz.func125
theorem nm_s_l18Cut : (Tryz.f125.name == "runtime.NumGoroutine" || Tryz.f125.body.isNone) = false := by kernel_rfl
abbrev n_s_ParseClause : Nat := 126
theorem fn_s_ParseClause : Tryz.prog.funcs[126]? = some Tryz.f126 := Tryz.func126
theorem nm_s_ParseClause : (Tryz.f126.name == "runtime.NumGoroutine" || Tryz.f126.body.isNone) = false := by kernel_rfl
abbrev n_x_Index_Pred : Nat := 127
theorem fn_x_Index_Pred : Tryz.prog.funcs[127]? = some Tryz.f127 := Tryz.func127
theorem nm_x_Index_Pred : (Tryz.f127.name == "runtime.NumGoroutine" || Tryz.f127.body.isNone) = false := by kernel_rfl
abbrev n_i_ownList : Nat := 128
theorem fn_i_ownList : Tryz.prog.funcs[128]? = some Tryz.f128 := Tryz.func128
theorem nm_i_ownList : (Tryz.f128.name == "runtime.NumGoroutine" || Tryz.f128.body.isNone) = false := by kernel_rfl
abbrev n_x_Clip_Term : Nat := 129
theorem fn_x_Clip_Term : Tryz.prog.funcs[129]? = some Tryz.f129 := Tryz.func129
theorem nm_x_Clip_Term : (Tryz.f129.name == "runtime.NumGoroutine" || Tryz.f129.body.isNone) = false := by kernel_rfl
abbrev n_s_l1Renumber : Nat := 130
theorem fn_s_l1Renumber : Tryz.prog.funcs[130]? = some Tryz.f130 := Tryz.func130
theorem nm_s_l1Renumber : (Tryz.f130.name == "runtime.NumGoroutine" || Tryz.f130.body.isNone) = false := by kernel_rfl
abbrev n_i_varsOf : Nat := 131
theorem fn_i_varsOf : Tryz.prog.funcs[131]? = some Tryz.f131 := Tryz.func131
theorem nm_i_varsOf : (Tryz.f131.name == "runtime.NumGoroutine" || Tryz.f131.body.isNone) = false := by kernel_rfl
abbrev n_i_mapVars : Nat := 132
theorem fn_i_mapVars : Tryz.prog.funcs[132]? = some Tryz.f132 := Tryz.func132
theorem nm_i_mapVars : (Tryz.f132.name == "runtime.NumGoroutine" || Tryz.f132.body.isNone) = false := by kernel_rfl
abbrev n_i_renumbered_1 : Nat := 133
theorem fn_i_renumbered_1 : Tryz.prog.funcs[133]? = some Tryz.f133 := Tryz.func133
theorem nm_i_renumbered_1 : (Tryz.f133.name == "runtime.NumGoroutine" || Tryz.f133.body.isNone) = false := by kernel_rfl
abbrev n_i_variable : Nat := 134
theorem fn_i_variable : Tryz.prog.funcs[134]? = some Tryz.f134 := Tryz.func134
theorem nm_i_variable : (Tryz.f134.name == "runtime.NumGoroutine" || Tryz.f134.body.isNone) = false := by kernel_rfl
abbrev n_x_Index_int : Nat := 135
theorem fn_x_Index_int : Tryz.prog.funcs[135]? = some Tryz.f135 := Tryz.func135
theorem nm_x_Index_int : (Tryz.f135.name == "runtime.NumGoroutine" || Tryz.f135.body.isNone) = false := by kernel_rfl
abbrev n_s_l4Texts : Nat := 136
theorem fn_s_l4Texts : Tryz.prog.funcs[136]? = some Tryz.f136 := Tryz.func136
theorem nm_s_l4Texts : (Tryz.f136.name == "runtime.NumGoroutine" || Tryz.f136.body.isNone) = false := by kernel_rfl
abbrev n_s_l6Query : Nat := 137
theorem fn_s_l6Query : Tryz.prog.funcs[137]? = some Tryz.f137 := Tryz.func137
theorem nm_s_l6Query : (Tryz.f137.name == "runtime.NumGoroutine" || Tryz.f137.body.isNone) = false := by kernel_rfl
abbrev n_s_ParseQuery : Nat := 138
theorem fn_s_ParseQuery : Tryz.prog.funcs[138]? = some Tryz.f138 := Tryz.func138
theorem nm_s_ParseQuery : (Tryz.f138.name == "runtime.NumGoroutine" || Tryz.f138.body.isNone) = false := by kernel_rfl
abbrev n_s_l15Pair : Nat := 139
theorem fn_s_l15Pair : Tryz.prog.funcs[139]? = some Tryz.f139 := Tryz.func139
theorem nm_s_l15Pair : (Tryz.f139.name == "runtime.NumGoroutine" || Tryz.f139.body.isNone) = false := by kernel_rfl
abbrev n_s_l18Rd_num : Nat := 140
theorem fn_s_l18Rd_num : Tryz.prog.funcs[140]? = some Tryz.f140 := Tryz.func140
theorem nm_s_l18Rd_num : (Tryz.f140.name == "runtime.NumGoroutine" || Tryz.f140.body.isNone) = false := by kernel_rfl
abbrev n_i_isCut : Nat := 141
theorem fn_i_isCut : Tryz.prog.funcs[141]? = some Tryz.f141 := Tryz.func141
theorem nm_i_isCut : (Tryz.f141.name == "runtime.NumGoroutine" || Tryz.f141.body.isNone) = false := by kernel_rfl
abbrev n_x_IndexFunc_int : Nat := 142
theorem fn_x_IndexFunc_int : Tryz.prog.funcs[142]? = some Tryz.f142 := Tryz.func142
theorem nm_x_IndexFunc_int : (Tryz.f142.name == "runtime.NumGoroutine" || Tryz.f142.body.isNone) = false := by kernel_rfl
abbrev n_i_newStore : Nat := 143
theorem fn_i_newStore : Tryz.prog.funcs[143]? = some Tryz.f143 := Tryz.func143
theorem nm_i_newStore : (Tryz.f143.name == "runtime.NumGoroutine" || Tryz.f143.body.isNone) = false := by kernel_rfl
abbrev n_i_resolvent_1 : Nat := 144
theorem fn_i_resolvent_1 : Tryz.prog.funcs[144]? = some Tryz.f144 := Tryz.func144
theorem nm_i_resolvent_1 : (Tryz.f144.name == "runtime.NumGoroutine" || Tryz.f144.body.isNone) = false := by kernel_rfl
abbrev n_i_store_unify : Nat := 145
theorem fn_i_store_unify : Tryz.prog.funcs[145]? = some Tryz.f145 := Tryz.func145
theorem nm_i_store_unify : (Tryz.f145.name == "runtime.NumGoroutine" || Tryz.f145.body.isNone) = false := by kernel_rfl
abbrev n_i_store_resolve : Nat := 146
theorem fn_i_store_resolve : Tryz.prog.funcs[146]? = some Tryz.f146 := Tryz.func146
theorem nm_i_store_resolve : (Tryz.f146.name == "runtime.NumGoroutine" || Tryz.f146.body.isNone) = false := by kernel_rfl
abbrev n_s_l4Cut : Nat := 147
theorem fn_s_l4Cut : Tryz.prog.funcs[147]? = some Tryz.f147 := Tryz.func147
theorem nm_s_l4Cut : (Tryz.f147.name == "runtime.NumGoroutine" || Tryz.f147.body.isNone) = false := by kernel_rfl
abbrev n_s_l1Var : Nat := 148
theorem fn_s_l1Var : Tryz.prog.funcs[148]? = some Tryz.f148 := Tryz.func148
theorem nm_s_l1Var : (Tryz.f148.name == "runtime.NumGoroutine" || Tryz.f148.body.isNone) = false := by kernel_rfl
abbrev n_s_l1Int : Nat := 149
theorem fn_s_l1Int : Tryz.prog.funcs[149]? = some Tryz.f149 := Tryz.func149
theorem nm_s_l1Int : (Tryz.f149.name == "runtime.NumGoroutine" || Tryz.f149.body.isNone) = false := by kernel_rfl
abbrev n_s_l1Copy : Nat := 150
theorem fn_s_l1Copy : Tryz.prog.funcs[150]? = some Tryz.f150 := Tryz.func150
theorem nm_s_l1Copy : (Tryz.f150.name == "runtime.NumGoroutine" || Tryz.f150.body.isNone) = false := by kernel_rfl
abbrev n_s_l4Goal : Nat := 151
theorem fn_s_l4Goal : Tryz.prog.funcs[151]? = some Tryz.f151 := Tryz.func151
theorem nm_s_l4Goal : (Tryz.f151.name == "runtime.NumGoroutine" || Tryz.f151.body.isNone) = false := by kernel_rfl
abbrev n_s_l1Shape : Nat := 152
theorem fn_s_l1Shape : Tryz.prog.funcs[152]? = some Tryz.f152 := Tryz.func152
theorem nm_s_l1Shape : (Tryz.f152.name == "runtime.NumGoroutine" || Tryz.f152.body.isNone) = false := by kernel_rfl
abbrev n_s_l1Count : Nat := 153
theorem fn_s_l1Count : Tryz.prog.funcs[153]? = some Tryz.f153 := Tryz.func153
theorem nm_s_l1Count : (Tryz.f153.name == "runtime.NumGoroutine" || Tryz.f153.body.isNone) = false := by kernel_rfl
abbrev n_s_l1Word : Nat := 154
theorem fn_s_l1Word : Tryz.prog.funcs[154]? = some Tryz.f154 := Tryz.func154
theorem nm_s_l1Word : (Tryz.f154.name == "runtime.NumGoroutine" || Tryz.f154.body.isNone) = false := by kernel_rfl
abbrev n_s_IsBuiltin : Nat := 155
theorem fn_s_IsBuiltin : Tryz.prog.funcs[155]? = some Tryz.f155 := Tryz.func155
theorem nm_s_IsBuiltin : (Tryz.f155.name == "runtime.NumGoroutine" || Tryz.f155.body.isNone) = false := by kernel_rfl
abbrev n_s_l2Level : Nat := 156
theorem fn_s_l2Level : Tryz.prog.funcs[156]? = some Tryz.f156 := Tryz.func156
theorem nm_s_l2Level : (Tryz.f156.name == "runtime.NumGoroutine" || Tryz.f156.body.isNone) = false := by kernel_rfl
abbrev n_i_NameValid : Nat := 157
theorem fn_i_NameValid : Tryz.prog.funcs[157]? = some Tryz.f157 := Tryz.func157
theorem nm_i_NameValid : (Tryz.f157.name == "runtime.NumGoroutine" || Tryz.f157.body.isNone) = false := by kernel_rfl
abbrev n_i_scan_1 : Nat := 158
theorem fn_i_scan_1 : Tryz.prog.funcs[158]? = some Tryz.f158 := Tryz.func158
theorem nm_i_scan_1 : (Tryz.f158.name == "runtime.NumGoroutine" || Tryz.f158.body.isNone) = false := by kernel_rfl
abbrev n_i_OpLevel : Nat := 159
theorem fn_i_OpLevel : Tryz.prog.funcs[159]? = some Tryz.f159 := Tryz.func159
theorem nm_i_OpLevel : (Tryz.f159.name == "runtime.NumGoroutine" || Tryz.f159.body.isNone) = false := by kernel_rfl
abbrev n_i_IsBuiltin : Nat := 160
theorem fn_i_IsBuiltin : Tryz.prog.funcs[160]? = some Tryz.f160 := Tryz.func160
theorem nm_i_IsBuiltin : (Tryz.f160.name == "runtime.NumGoroutine" || Tryz.f160.body.isNone) = false := by kernel_rfl
abbrev n_x_IndexFunc_Term : Nat := 161
theorem fn_x_IndexFunc_Term : Tryz.prog.funcs[161]? = some Tryz.f161 := Tryz.func161
theorem nm_x_IndexFunc_Term : (Tryz.f161.name == "runtime.NumGoroutine" || Tryz.f161.body.isNone) = false := by kernel_rfl
abbrev n_s_l2Read : Nat := 162
theorem fn_s_l2Read : Tryz.prog.funcs[162]? = some Tryz.f162 := Tryz.func162
theorem nm_s_l2Read : (Tryz.f162.name == "runtime.NumGoroutine" || Tryz.f162.body.isNone) = false := by kernel_rfl
abbrev n_s_l1Sign : Nat := 163
theorem fn_s_l1Sign : Tryz.prog.funcs[163]? = some Tryz.f163 := Tryz.func163
theorem nm_s_l1Sign : (Tryz.f163.name == "runtime.NumGoroutine" || Tryz.f163.body.isNone) = false := by kernel_rfl
abbrev n_s_l4Goals : Nat := 164
theorem fn_s_l4Goals : Tryz.prog.funcs[164]? = some Tryz.f164 := Tryz.func164
theorem nm_s_l4Goals : (Tryz.f164.name == "runtime.NumGoroutine" || Tryz.f164.body.isNone) = false := by kernel_rfl
abbrev n_s_FormatClause : Nat := 165
theorem fn_s_FormatClause : Tryz.prog.funcs[165]? = some Tryz.f165 := Tryz.func165
theorem nm_s_FormatClause : (Tryz.f165.name == "runtime.NumGoroutine" || Tryz.f165.body.isNone) = false := by kernel_rfl
abbrev n_s_l1Vars : Nat := 166
theorem fn_s_l1Vars : Tryz.prog.funcs[166]? = some Tryz.f166 := Tryz.func166
theorem nm_s_l1Vars : (Tryz.f166.name == "runtime.NumGoroutine" || Tryz.f166.body.isNone) = false := by kernel_rfl
abbrev n_s_l1Rename : Nat := 167
theorem fn_s_l1Rename : Tryz.prog.funcs[167]? = some Tryz.f167 := Tryz.func167
theorem nm_s_l1Rename : (Tryz.f167.name == "runtime.NumGoroutine" || Tryz.f167.body.isNone) = false := by kernel_rfl
abbrev n_i_addVars : Nat := 168
theorem fn_i_addVars : Tryz.prog.funcs[168]? = some Tryz.f168 := Tryz.func168
theorem nm_i_addVars : (Tryz.f168.name == "runtime.NumGoroutine" || Tryz.f168.body.isNone) = false := by kernel_rfl
abbrev n_s_l6Queries : Nat := 169
theorem fn_s_l6Queries : Tryz.prog.funcs[169]? = some Tryz.f169 := Tryz.func169
theorem nm_s_l6Queries : (Tryz.f169.name == "runtime.NumGoroutine" || Tryz.f169.body.isNone) = false := by kernel_rfl
abbrev n_s_l15Texts : Nat := 170
theorem fn_s_l15Texts : Tryz.prog.funcs[170]? = some Tryz.f170 := Tryz.func170
theorem nm_s_l15Texts : (Tryz.f170.name == "runtime.NumGoroutine" || Tryz.f170.body.isNone) = false := by kernel_rfl
abbrev n_s_l15Queries : Nat := 171
theorem fn_s_l15Queries : Tryz.prog.funcs[171]? = some Tryz.f171 := Tryz.func171
theorem nm_s_l15Queries : (Tryz.f171.name == "runtime.NumGoroutine" || Tryz.f171.body.isNone) = false := by kernel_rfl
abbrev n_i_isAtom : Nat := 172
theorem fn_i_isAtom : Tryz.prog.funcs[172]? = some Tryz.f172 := Tryz.func172
theorem nm_i_isAtom : (Tryz.f172.name == "runtime.NumGoroutine" || Tryz.f172.body.isNone) = false := by kernel_rfl
abbrev n_i_store_walk : Nat := 173
theorem fn_i_store_walk : Tryz.prog.funcs[173]? = some Tryz.f173 := Tryz.func173
theorem nm_i_store_walk : (Tryz.f173.name == "runtime.NumGoroutine" || Tryz.f173.body.isNone) = false := by kernel_rfl
abbrev n_i_store_bind : Nat := 174
theorem fn_i_store_bind : Tryz.prog.funcs[174]? = some Tryz.f174 := Tryz.func174
theorem nm_i_store_bind : (Tryz.f174.name == "runtime.NumGoroutine" || Tryz.f174.body.isNone) = false := by kernel_rfl
abbrev n_i_store_resolving : Nat := 175
theorem fn_i_store_resolving : Tryz.prog.funcs[175]? = some Tryz.f175 := Tryz.func175
theorem nm_i_store_resolving : (Tryz.f175.name == "runtime.NumGoroutine" || Tryz.f175.body.isNone) = false := by kernel_rfl
abbrev n_s_l1Own : Nat := 176
theorem fn_s_l1Own : Tryz.prog.funcs[176]? = some Tryz.f176 := Tryz.func176
theorem nm_s_l1Own : (Tryz.f176.name == "runtime.NumGoroutine" || Tryz.f176.body.isNone) = false := by kernel_rfl
abbrev n_x_Contains_string : Nat := 177
theorem fn_x_Contains_string : Tryz.prog.funcs[177]? = some Tryz.f177 := Tryz.func177
theorem nm_x_Contains_string : (Tryz.f177.name == "runtime.NumGoroutine" || Tryz.f177.body.isNone) = false := by kernel_rfl
abbrev n_i_symbols : Nat := 178
theorem fn_i_symbols : Tryz.prog.funcs[178]? = some Tryz.f178 := Tryz.func178
theorem nm_i_symbols : (Tryz.f178.name == "runtime.NumGoroutine" || Tryz.f178.body.isNone) = false := by kernel_rfl
abbrev n_s_l2Prime : Nat := 179
theorem fn_s_l2Prime : Tryz.prog.funcs[179]? = some Tryz.f179 := Tryz.func179
theorem nm_s_l2Prime : (Tryz.f179.name == "runtime.NumGoroutine" || Tryz.f179.body.isNone) = false := by kernel_rfl
abbrev n_s_l2Op : Nat := 180
theorem fn_s_l2Op : Tryz.prog.funcs[180]? = some Tryz.f180 := Tryz.func180
theorem nm_s_l2Op : (Tryz.f180.name == "runtime.NumGoroutine" || Tryz.f180.body.isNone) = false := by kernel_rfl
abbrev n_s_l4Text : Nat := 181
theorem fn_s_l4Text : Tryz.prog.funcs[181]? = some Tryz.f181 := Tryz.func181
theorem nm_s_l4Text : (Tryz.f181.name == "runtime.NumGoroutine" || Tryz.f181.body.isNone) = false := by kernel_rfl
abbrev n_i_store_occurs : Nat := 182
theorem fn_i_store_occurs : Tryz.prog.funcs[182]? = some Tryz.f182 := Tryz.func182
theorem nm_i_store_occurs : (Tryz.f182.name == "runtime.NumGoroutine" || Tryz.f182.body.isNone) = false := by kernel_rfl
abbrev n_s_NameValid : Nat := 183
theorem fn_s_NameValid : Tryz.prog.funcs[183]? = some Tryz.f183 := Tryz.func183
theorem nm_s_NameValid : (Tryz.f183.name == "runtime.NumGoroutine" || Tryz.f183.body.isNone) = false := by kernel_rfl
abbrev n_x_Index_string : Nat := 184
theorem fn_x_Index_string : Tryz.prog.funcs[184]? = some Tryz.f184 := Tryz.func184
theorem nm_x_Index_string : (Tryz.f184.name == "runtime.NumGoroutine" || Tryz.f184.body.isNone) = false := by kernel_rfl
abbrev n_s_l2Fails : Nat := 185
theorem fn_s_l2Fails : Tryz.prog.funcs[185]? = some Tryz.f185 := Tryz.func185
theorem nm_s_l2Fails : (Tryz.f185.name == "runtime.NumGoroutine" || Tryz.f185.body.isNone) = false := by kernel_rfl
abbrev n_s_l2Items : Nat := 186
theorem fn_s_l2Items : Tryz.prog.funcs[186]? = some Tryz.f186 := Tryz.func186
theorem nm_s_l2Items : (Tryz.f186.name == "runtime.NumGoroutine" || Tryz.f186.body.isNone) = false := by kernel_rfl
abbrev n_s_l1Digit : Nat := 187
theorem fn_s_l1Digit : Tryz.prog.funcs[187]? = some Tryz.f187 := Tryz.func187
theorem nm_s_l1Digit : (Tryz.f187.name == "runtime.NumGoroutine" || Tryz.f187.body.isNone) = false := by kernel_rfl
abbrev n_s_l1Number : Nat := 188
theorem fn_s_l1Number : Tryz.prog.funcs[188]? = some Tryz.f188 := Tryz.func188
theorem nm_s_l1Number : (Tryz.f188.name == "runtime.NumGoroutine" || Tryz.f188.body.isNone) = false := by kernel_rfl
abbrev n_s_l1Name : Nat := 189
theorem fn_s_l1Name : Tryz.prog.funcs[189]? = some Tryz.f189 := Tryz.func189
theorem nm_s_l1Name : (Tryz.f189.name == "runtime.NumGoroutine" || Tryz.f189.body.isNone) = false := by kernel_rfl
abbrev n_s_l2Terms : Nat := 190
theorem fn_s_l2Terms : Tryz.prog.funcs[190]? = some Tryz.f190 := Tryz.func190
theorem nm_s_l2Terms : (Tryz.f190.name == "runtime.NumGoroutine" || Tryz.f190.body.isNone) = false := by kernel_rfl
abbrev n_s_l2Text : Nat := 191
theorem fn_s_l2Text : Tryz.prog.funcs[191]? = some Tryz.f191 := Tryz.func191
theorem nm_s_l2Text : (Tryz.f191.name == "runtime.NumGoroutine" || Tryz.f191.body.isNone) = false := by kernel_rfl
abbrev n_i_store_occurs_1 : Nat := 192
theorem fn_i_store_occurs_1 : Tryz.prog.funcs[192]? = some Tryz.f192 := Tryz.func192
theorem nm_i_store_occurs_1 : (Tryz.f192.name == "runtime.NumGoroutine" || Tryz.f192.body.isNone) = false := by kernel_rfl
abbrev n_s_l1Has : Nat := 193
theorem fn_s_l1Has : Tryz.prog.funcs[193]? = some Tryz.f193 := Tryz.func193
theorem nm_s_l1Has : (Tryz.f193.name == "runtime.NumGoroutine" || Tryz.f193.body.isNone) = false := by kernel_rfl
abbrev n_s_l1Signs : Nat := 194
theorem fn_s_l1Signs : Tryz.prog.funcs[194]? = some Tryz.f194 := Tryz.func194
theorem nm_s_l1Signs : (Tryz.f194.name == "runtime.NumGoroutine" || Tryz.f194.body.isNone) = false := by kernel_rfl
abbrev n_s_l1Chain : Nat := 195
theorem fn_s_l1Chain : Tryz.prog.funcs[195]? = some Tryz.f195 := Tryz.func195
theorem nm_s_l1Chain : (Tryz.f195.name == "runtime.NumGoroutine" || Tryz.f195.body.isNone) = false := by kernel_rfl
abbrev n_s_l18Num : Nat := 196
theorem fn_s_l18Num : Tryz.prog.funcs[196]? = some Tryz.f196 := Tryz.func196
theorem nm_s_l18Num : (Tryz.f196.name == "runtime.NumGoroutine" || Tryz.f196.body.isNone) = false := by kernel_rfl
abbrev n_s_l1Small : Nat := 197
theorem fn_s_l1Small : Tryz.prog.funcs[197]? = some Tryz.f197 := Tryz.func197
theorem nm_s_l1Small : (Tryz.f197.name == "runtime.NumGoroutine" || Tryz.f197.body.isNone) = false := by kernel_rfl
abbrev n_s_l1Pair : Nat := 198
theorem fn_s_l1Pair : Tryz.prog.funcs[198]? = some Tryz.f198 := Tryz.func198
theorem nm_s_l1Pair : (Tryz.f198.name == "runtime.NumGoroutine" || Tryz.f198.body.isNone) = false := by kernel_rfl
abbrev n_s_l2List : Nat := 199
theorem fn_s_l2List : Tryz.prog.funcs[199]? = some Tryz.f199 := Tryz.func199
theorem nm_s_l2List : (Tryz.f199.name == "runtime.NumGoroutine" || Tryz.f199.body.isNone) = false := by kernel_rfl
abbrev n_s_l2Infix : Nat := 200
theorem fn_s_l2Infix : Tryz.prog.funcs[200]? = some Tryz.f200 := Tryz.func200
theorem nm_s_l2Infix : (Tryz.f200.name == "runtime.NumGoroutine" || Tryz.f200.body.isNone) = false := by kernel_rfl
abbrev n_s_l2Left : Nat := 201
theorem fn_s_l2Left : Tryz.prog.funcs[201]? = some Tryz.f201 := Tryz.func201
theorem nm_s_l2Left : (Tryz.f201.name == "runtime.NumGoroutine" || Tryz.f201.body.isNone) = false := by kernel_rfl
abbrev n_s_l2Spaced : Nat := 202
theorem fn_s_l2Spaced : Tryz.prog.funcs[202]? = some Tryz.f202 := Tryz.func202
theorem nm_s_l2Spaced : (Tryz.f202.name == "runtime.NumGoroutine" || Tryz.f202.body.isNone) = false := by kernel_rfl
abbrev n_s_l2Right : Nat := 203
theorem fn_s_l2Right : Tryz.prog.funcs[203]? = some Tryz.f203 := Tryz.func203
theorem nm_s_l2Right : (Tryz.f203.name == "runtime.NumGoroutine" || Tryz.f203.body.isNone) = false := by kernel_rfl
abbrev n_s_l2Args : Nat := 204
theorem fn_s_l2Args : Tryz.prog.funcs[204]? = some Tryz.f204 := Tryz.func204
theorem nm_s_l2Args : (Tryz.f204.name == "runtime.NumGoroutine" || Tryz.f204.body.isNone) = false := by kernel_rfl
abbrev n_s_l1Text : Nat := 205
theorem fn_s_l1Text : Tryz.prog.funcs[205]? = some Tryz.f205 := Tryz.func205
theorem nm_s_l1Text : (Tryz.f205.name == "runtime.NumGoroutine" || Tryz.f205.body.isNone) = false := by kernel_rfl
abbrev n_s_l1Nil : Nat := 206
theorem fn_s_l1Nil : Tryz.prog.funcs[206]? = some Tryz.f206 := Tryz.func206
theorem nm_s_l1Nil : (Tryz.f206.name == "runtime.NumGoroutine" || Tryz.f206.body.isNone) = false := by kernel_rfl
abbrev n_s_l2Sole : Nat := 207
theorem fn_s_l2Sole : Tryz.prog.funcs[207]? = some Tryz.f207 := Tryz.func207
theorem nm_s_l2Sole : (Tryz.f207.name == "runtime.NumGoroutine" || Tryz.f207.body.isNone) = false := by kernel_rfl
abbrev n_s_l2Bracket : Nat := 208
theorem fn_s_l2Bracket : Tryz.prog.funcs[208]? = some Tryz.f208 := Tryz.func208
theorem nm_s_l2Bracket : (Tryz.f208.name == "runtime.NumGoroutine" || Tryz.f208.body.isNone) = false := by kernel_rfl
abbrev n_s_l2Plain : Nat := 209
theorem fn_s_l2Plain : Tryz.prog.funcs[209]? = some Tryz.f209 := Tryz.func209
theorem nm_s_l2Plain : (Tryz.f209.name == "runtime.NumGoroutine" || Tryz.f209.body.isNone) = false := by kernel_rfl
abbrev n_s_l1Letter : Nat := 210
theorem fn_s_l1Letter : Tryz.prog.funcs[210]? = some Tryz.f210 := Tryz.func210
theorem nm_s_l1Letter : (Tryz.f210.name == "runtime.NumGoroutine" || Tryz.f210.body.isNone) = false := by kernel_rfl
abbrev n_s_l1Dec : Nat := 211
theorem fn_s_l1Dec : Tryz.prog.funcs[211]? = some Tryz.f211 := Tryz.func211
theorem nm_s_l1Dec : (Tryz.f211.name == "runtime.NumGoroutine" || Tryz.f211.body.isNone) = false := by kernel_rfl
abbrev n_s_l1List : Nat := 212
theorem fn_s_l1List : Tryz.prog.funcs[212]? = some Tryz.f212 := Tryz.func212
theorem nm_s_l1List : (Tryz.f212.name == "runtime.NumGoroutine" || Tryz.f212.body.isNone) = false := by kernel_rfl
abbrev n_s_l18Dec : Nat := 213
theorem fn_s_l18Dec : Tryz.prog.funcs[213]? = some Tryz.f213 := Tryz.func213
theorem nm_s_l18Dec : (Tryz.f213.name == "runtime.NumGoroutine" || Tryz.f213.body.isNone) = false := by kernel_rfl
end Go.Proofs.YtmnnpgdeecnfpaaGreat

-- Laid by wip/tools/ext.py, a program of this repo, over the kit's printer: Go functions as plain Lean functions, and their contracts.
import Derived.Test.YthngjjeilcfhgaaDoorPt0
namespace Go.Proofs.YthngjjeilcfhgaaDoor.Pt
open Go.Proofs.YthngjjeilcfhgaaDoor.Pa Go.Proofs.YthngjjeilcfhgaaDoor.Pb Go.Proofs.YthngjjeilcfhgaaDoor.Pl Go.Proofs.YthngjjeilcfhgaaDoor.Pu
open Go.RowKit Go.Proofs.YthngjjeilcfhgaaDoorW.PrintWords Go.Proofs.YthngjjeilcfhgaaDoorW.PrintLast Go.Proofs.YthngjjeilcfhgaaDoorW.PrintMore
attribute [local go_sem] max2_int min2_int max_two min_two max_three min_three max_four min_four   -- for this text's walks alone
set_option linter.unusedVariables false
set_option linter.unusedSimpArgs false

-- NOT PRINTED: function 37 (glob_pieces)

-- NOT PRINTED: function 26 (glob_Match)

-- external: acl_Fits

-- external: acl_Decide

-- NOT PRINTED: function 48 (abi_NoEscape)

-- NOT PRINTED: function 38 (strings_Builder_copyCheck)

-- NOT PRINTED: function 29 (strings_Builder_WriteString)

-- NOT PRINTED: function 31 (strings_Builder_String)

-- NOT PRINTED: function 70 (bytealg_MakeNoZero)

-- NOT PRINTED: function 60 (strings_Builder_grow)

-- NOT PRINTED: function 49 (strings_Builder_Grow)

-- NOT PRINTED: function 39 (strings_Join)

-- NOT PRINTED: function 73 (atomic_LoadUint32)

-- NOT PRINTED: function 65 (atomic_Bool_Load)

-- NOT PRINTED: function 86 (race_Disable)

-- NOT PRINTED: function 87 (atomic_CompareAndSwapInt32)

-- NOT PRINTED: function 88 (race_Enable)

-- NOT PRINTED: function 89 (race_Acquire)

-- NOT PRINTED: function 92 (atomic_AddInt32)

-- NOT PRINTED: function 94 (sync_runtime_canSpin)

-- NOT PRINTED: function 95 (sync_runtime_doSpin)

-- NOT PRINTED: function 96 (sync_throw)

-- NOT PRINTED: function 97 (sync_runtime_nanotime)

-- NOT PRINTED: function 98 (sync_runtime_SemacquireMutex)

-- NOT PRINTED: function 90 (sync_Mutex_lockSlow)

-- NOT PRINTED: function 80 (sync_Mutex_Lock_80)

-- NOT PRINTED: function 74 (sync_Mutex_Lock_74)

-- NOT PRINTED: function 91 (race_ReleaseMerge)

-- NOT PRINTED: function 99 (sync_fatal)

-- NOT PRINTED: function 100 (sync_runtime_Semrelease)

-- NOT PRINTED: function 93 (sync_Mutex_unlockSlow)

-- NOT PRINTED: function 81 (sync_Mutex_Unlock_81)

-- NOT PRINTED: function 75 (sync_Mutex_Unlock_75)

-- NOT PRINTED: function 82 (atomic_StoreUint32)

-- NOT PRINTED: function 83 (atomic_b32)

-- NOT PRINTED: function 76 (atomic_Bool_Store)

-- NOT PRINTED: function 66 (sync_Once_doSlow)

-- NOT PRINTED: function 53 (sync_Once_Do)

-- NOT PRINTED: function 43 (acl_classes_made)

-- NOT PRINTED: function 40 (acl_class)

-- NOT PRINTED: function 30 (acl_line)

-- NOT PRINTED: function 18 (acl_Print)

-- NOT PRINTED: function 61 (utf8_RuneCountInString)

-- NOT PRINTED: function 71 (utf8_decodeRuneInStringSlow)

-- NOT PRINTED: function 62 (utf8_DecodeRuneInString)

-- NOT PRINTED: function 50 (strings_explode)

-- NOT PRINTED: function 58 (bytealg_Cutover)

-- NOT PRINTED: function 59 (bytealg_IndexString)

-- NOT PRINTED: function 78 (bytealg_IndexByteString)

-- NOT PRINTED: function 69 (stringslite_IndexByte)

-- NOT PRINTED: function 79 (bytealg_hashStr_string)

-- NOT PRINTED: function 72 (bytealg_IndexRabinKarp_string)

-- NOT PRINTED: function 64 (stringslite_Index)

-- NOT PRINTED: function 52 (strings_Index)

-- NOT PRINTED: function 63 (bytealg_CountString)

-- NOT PRINTED: function 51 (strings_Count)

-- NOT PRINTED: function 41 (strings_genSplit)

-- NOT PRINTED: function 32 (strings_Split)

-- NOT PRINTED: function 56 (strings_IndexByte)

-- NOT PRINTED: function 57 (utf8_ValidRune)

-- NOT PRINTED: function 44 (strings_IndexRune)

-- NOT PRINTED: function 45 (strings_shouldUseASCIISet)

-- NOT PRINTED: function 46 (strings_makeASCIISet)

-- NOT PRINTED: function 47 (strings_asciiSet_contains)

-- NOT PRINTED: function 36 (strings_IndexAny)

-- NOT PRINTED: function 22 (strings_ContainsAny)

-- NOT PRINTED: function 23 (glob_Right)

-- external: acl_Right

-- NOT PRINTED: function 42 (slices_Index_string_string)

-- NOT PRINTED: function 33 (acl_read)

-- NOT PRINTED: function 19 (acl_Parse)

-- external: escutcheonlaw18_alive

-- NOT PRINTED: function 24 (escutcheonref14_Name)

-- external: escutcheonref14_Glob

-- external: escutcheonref14_Rule

end Go.Proofs.YthngjjeilcfhgaaDoor.Pt

-- Laid by wip/pp.py for this seat.
import Derived.Test.YtmpgknemhmoboaaDoorQ08Jx0
namespace Go.Proofs.YtmpgknemhmoboaaDoor.Q08J
open Go.RowKit Go.Proofs.YtmpgknemhmoboaaDoorW.PrintWords Go.Proofs.YtmpgknemhmoboaaDoorW.PrintLast Go.Proofs.YtmpgknemhmoboaaDoorW.PrintMore
attribute [local go_sem] max2_int min2_int max_two min_two max_three min_three max_four min_four   -- for this text's walks alone
set_option linter.unusedVariables false
set_option linter.unusedSimpArgs false

-- NOT PRINTED: function 33 (utf8_RuneCountInString)

-- NOT PRINTED: function 37 (utf8_decodeRuneInStringSlow)

-- NOT PRINTED: function 34 (utf8_DecodeRuneInString)

-- NOT PRINTED: function 29 (strings_explode)

-- NOT PRINTED: function 42 (bytealg_IndexByteString)

-- NOT PRINTED: function 38 (stringslite_IndexByte)

-- NOT PRINTED: function 39 (bytealg_IndexString)

-- NOT PRINTED: function 40 (bytealg_Cutover)

-- NOT PRINTED: function 43 (bytealg_hashStr_string)

-- NOT PRINTED: function 41 (bytealg_IndexRabinKarp_string)

-- NOT PRINTED: function 36 (stringslite_Index)

-- NOT PRINTED: function 31 (strings_Index)

-- NOT PRINTED: function 35 (bytealg_CountString)

-- NOT PRINTED: function 30 (strings_Count)

-- NOT PRINTED: function 25 (strings_genSplit)

-- NOT PRINTED: function 19 (words_letter)

end Go.Proofs.YtmpgknemhmoboaaDoor.Q08J

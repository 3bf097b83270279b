/-
  The types of the translation,as plain facts.
-/
import Derived.Test.YtehoglapajkabaaIV16
import Derived.Test.YtehoglapajkabaaProg
import Derived.KernelRfl
set_option linter.all false
namespace Go.Proofs.Ytehoglapajkabaa
open Go Go.RowKit
set_option maxRecDepth 100000
theorem tAgg_1:tAgg Try.prog 1=some false:=by kernel_rfl
theorem tSize_1:zaP Try.prog 1=some 1:=by kernel_rfl
theorem tBytes_1:zaV Try.prog 1=some 8:=by kernel_rfl
theorem tElem_1:zaN Try.prog 1=none:=by kernel_rfl
theorem tStr_1:tStr Try.prog 1=false:=by kernel_rfl
theorem tInt_1:tInt Try.prog 1=none:=by kernel_rfl
theorem tzo_1:tzo Try.prog 1=some (.atom (.nilFunc)):=by kernel_rfl
theorem tAgg_2:tAgg Try.prog 2=some false:=by kernel_rfl
theorem tSize_2:zaP Try.prog 2=some 1:=by kernel_rfl
theorem tBytes_2:zaV Try.prog 2=some 8:=by kernel_rfl
theorem tElem_2:zaN Try.prog 2=none:=by kernel_rfl
theorem tStr_2:tStr Try.prog 2=false:=by kernel_rfl
theorem tInt_2:tInt Try.prog 2=some .i64:=by kernel_rfl
theorem tUnd_2:((Try.prog.underlying 2).isSome=true):=by kernel_rfl
theorem tzo_2:tzo Try.prog 2=some (.atom (.int .i64 0)):=by kernel_rfl
theorem tAgg_3:tAgg Try.prog 3=some false:=by kernel_rfl
theorem tSize_3:zaP Try.prog 3=some 1:=by kernel_rfl
theorem tBytes_3:zaV Try.prog 3=some 8:=by kernel_rfl
theorem tElem_3:zaN Try.prog 3=none:=by kernel_rfl
theorem tStr_3:tStr Try.prog 3=false:=by kernel_rfl
theorem tInt_3:tInt Try.prog 3=some .i64:=by kernel_rfl
theorem tUnd_3:((Try.prog.underlying 3).isSome=true):=by kernel_rfl
theorem tzo_3:tzo Try.prog 3=some (.atom (.int .i64 0)):=by kernel_rfl
theorem tAgg_4:tAgg Try.prog 4=some false:=by kernel_rfl
theorem tSize_4:zaP Try.prog 4=some 1:=by kernel_rfl
theorem tBytes_4:zaV Try.prog 4=some 1:=by kernel_rfl
theorem tElem_4:zaN Try.prog 4=none:=by kernel_rfl
theorem tStr_4:tStr Try.prog 4=false:=by kernel_rfl
theorem tInt_4:tInt Try.prog 4=none:=by kernel_rfl
theorem tUnd_4:((Try.prog.underlying 4).isSome=true):=by kernel_rfl
theorem tBool_4:Try.prog.underlying 4=some .bool:=by kernel_rfl
theorem tzo_4:tzo Try.prog 4=some (.atom (.bool false)):=by kernel_rfl
theorem tAgg_5:tAgg Try.prog 5=some false:=by kernel_rfl
theorem tSize_5:zaP Try.prog 5=some 1:=by kernel_rfl
theorem tBytes_5:zaV Try.prog 5=some 1:=by kernel_rfl
theorem tElem_5:zaN Try.prog 5=none:=by kernel_rfl
theorem tStr_5:tStr Try.prog 5=false:=by kernel_rfl
theorem tInt_5:tInt Try.prog 5=some .u8:=by kernel_rfl
theorem tUnd_5:((Try.prog.underlying 5).isSome=true):=by kernel_rfl
theorem tzo_5:tzo Try.prog 5=some (.atom (.int .u8 0)):=by kernel_rfl
theorem tAgg_9:tAgg Try.prog 9=some false:=by kernel_rfl
theorem tSize_9:zaP Try.prog 9=some 1:=by kernel_rfl
theorem tBytes_9:zaV Try.prog 9=some 16:=by kernel_rfl
theorem tElem_9:zaN Try.prog 9=none:=by kernel_rfl
theorem tStr_9:tStr Try.prog 9=true:=by kernel_rfl
theorem tInt_9:tInt Try.prog 9=none:=by kernel_rfl
theorem tUnd_9:((Try.prog.underlying 9).isSome=true):=by kernel_rfl
theorem tzo_9:tzo Try.prog 9=some (.atom (.string ⟨#[]⟩)):=by kernel_rfl
theorem tAgg_21:tAgg Try.prog 21=some false:=by kernel_rfl
theorem tSize_21:zaP Try.prog 21=some 1:=by kernel_rfl
theorem zqh:zaV Try.prog 21=some 4:=by kernel_rfl
theorem tElem_21:zaN Try.prog 21=none:=by kernel_rfl
theorem tStr_21:tStr Try.prog 21=false:=by kernel_rfl
theorem tInt_21:tInt Try.prog 21=some .i32:=by kernel_rfl
theorem tUnd_21:((Try.prog.underlying 21).isSome=true):=by kernel_rfl
theorem tzo_21:tzo Try.prog 21=some (.atom (.int .i32 0)):=by kernel_rfl
theorem tAgg_22:tAgg Try.prog 22=some false:=by kernel_rfl
theorem tSize_22:zaP Try.prog 22=some 1:=by kernel_rfl
theorem zqg:zaV Try.prog 22=some 24:=by kernel_rfl
theorem tElem_22:zaN Try.prog 22=some 3:=by kernel_rfl
theorem tStr_22:tStr Try.prog 22=false:=by kernel_rfl
theorem tInt_22:tInt Try.prog 22=none:=by kernel_rfl
theorem tzo_22:tzo Try.prog 22=some (.atom (.slice none 0 0)):=by kernel_rfl
theorem tAgg_23:tAgg Try.prog 23=some false:=by kernel_rfl
theorem tSize_23:zaP Try.prog 23=some 1:=by kernel_rfl
theorem zqf:zaV Try.prog 23=some 24:=by kernel_rfl
theorem tElem_23:zaN Try.prog 23=some 40:=by kernel_rfl
theorem tStr_23:tStr Try.prog 23=false:=by kernel_rfl
theorem tInt_23:tInt Try.prog 23=none:=by kernel_rfl
theorem tzo_23:tzo Try.prog 23=some (.atom (.slice none 0 0)):=by kernel_rfl
theorem tAgg_24:tAgg Try.prog 24=some false:=by kernel_rfl
theorem tSize_24:zaP Try.prog 24=some 1:=by kernel_rfl
theorem zqe:zaV Try.prog 24=some 24:=by kernel_rfl
theorem tElem_24:zaN Try.prog 24=some 66:=by kernel_rfl
theorem tStr_24:tStr Try.prog 24=false:=by kernel_rfl
theorem tInt_24:tInt Try.prog 24=none:=by kernel_rfl
theorem tzo_24:tzo Try.prog 24=some (.atom (.slice none 0 0)):=by kernel_rfl
theorem tAgg_25:tAgg Try.prog 25=some false:=by kernel_rfl
theorem tSize_25:zaP Try.prog 25=some 1:=by kernel_rfl
theorem zqd:zaV Try.prog 25=some 24:=by kernel_rfl
theorem tElem_25:zaN Try.prog 25=some 67:=by kernel_rfl
theorem tStr_25:tStr Try.prog 25=false:=by kernel_rfl
theorem tInt_25:tInt Try.prog 25=none:=by kernel_rfl
theorem tzo_25:tzo Try.prog 25=some (.atom (.slice none 0 0)):=by kernel_rfl
theorem tAgg_27:tAgg Try.prog 27=some true:=by kernel_rfl
theorem tSize_27:zaP Try.prog 27=some 3:=by kernel_rfl
theorem zqc:zaV Try.prog 27=some 72:=by kernel_rfl
theorem tElem_27:zaN Try.prog 27=none:=by kernel_rfl
theorem tStr_27:tStr Try.prog 27=false:=by kernel_rfl
theorem tInt_27:tInt Try.prog 27=none:=by kernel_rfl
theorem zpx:tFld Try.prog 27 0=some (0,23):=by kernel_rfl
theorem zkQ:za7 Try.prog 27 0=some (0,1):=by kernel_rfl
theorem zpw:tFld Try.prog 27 1=some (1,24):=by kernel_rfl
theorem zkP:za7 Try.prog 27 1=some (1,1):=by kernel_rfl
theorem zpv:tFld Try.prog 27 2=some (2,25):=by kernel_rfl
theorem zkO:za7 Try.prog 27 2=some (2,1):=by kernel_rfl
theorem zo2:zct Try.prog 27=true:=by kernel_rfl
theorem tzo_27:tzo Try.prog 27=some (.agg [.atom (.slice none 0 0),.atom (.slice none 0 0),.atom (.slice none 0 0)]):=by kernel_rfl
theorem tAgg_29:tAgg Try.prog 29=some false:=by kernel_rfl
theorem tSize_29:zaP Try.prog 29=some 1:=by kernel_rfl
theorem zqb:zaV Try.prog 29=some 24:=by kernel_rfl
theorem tElem_29:zaN Try.prog 29=some 50:=by kernel_rfl
theorem tStr_29:tStr Try.prog 29=false:=by kernel_rfl
theorem tInt_29:tInt Try.prog 29=none:=by kernel_rfl
theorem tzo_29:tzo Try.prog 29=some (.atom (.slice none 0 0)):=by kernel_rfl
theorem tAgg_30:tAgg Try.prog 30=some false:=by kernel_rfl
theorem tSize_30:zaP Try.prog 30=some 1:=by kernel_rfl
theorem zqa:zaV Try.prog 30=some 24:=by kernel_rfl
theorem tElem_30:zaN Try.prog 30=some 48:=by kernel_rfl
theorem tStr_30:tStr Try.prog 30=false:=by kernel_rfl
theorem tInt_30:tInt Try.prog 30=none:=by kernel_rfl
theorem tzo_30:tzo Try.prog 30=some (.atom (.slice none 0 0)):=by kernel_rfl
theorem tAgg_31:tAgg Try.prog 31=some false:=by kernel_rfl
theorem tSize_31:zaP Try.prog 31=some 1:=by kernel_rfl
theorem zp9:zaV Try.prog 31=some 24:=by kernel_rfl
theorem tElem_31:zaN Try.prog 31=some 52:=by kernel_rfl
theorem tStr_31:tStr Try.prog 31=false:=by kernel_rfl
theorem tInt_31:tInt Try.prog 31=none:=by kernel_rfl
theorem tzo_31:tzo Try.prog 31=some (.atom (.slice none 0 0)):=by kernel_rfl
theorem tAgg_33:tAgg Try.prog 33=some true:=by kernel_rfl
theorem tSize_33:zaP Try.prog 33=some 3:=by kernel_rfl
theorem zp8:zaV Try.prog 33=some 72:=by kernel_rfl
theorem tElem_33:zaN Try.prog 33=none:=by kernel_rfl
theorem tStr_33:tStr Try.prog 33=false:=by kernel_rfl
theorem tInt_33:tInt Try.prog 33=none:=by kernel_rfl
theorem zpu:tFld Try.prog 33 0=some (0,29):=by kernel_rfl
theorem zkN:za7 Try.prog 33 0=some (0,1):=by kernel_rfl
theorem zpt:tFld Try.prog 33 1=some (1,30):=by kernel_rfl
theorem zkM:za7 Try.prog 33 1=some (1,1):=by kernel_rfl
theorem zps:tFld Try.prog 33 2=some (2,31):=by kernel_rfl
theorem zkL:za7 Try.prog 33 2=some (2,1):=by kernel_rfl
theorem zo1:zct Try.prog 33=true:=by kernel_rfl
theorem tzo_33:tzo Try.prog 33=some (.agg [.atom (.slice none 0 0),.atom (.slice none 0 0),.atom (.slice none 0 0)]):=by kernel_rfl
theorem tAgg_35:tAgg Try.prog 35=some false:=by kernel_rfl
theorem tSize_35:zaP Try.prog 35=some 1:=by kernel_rfl
theorem zp7:zaV Try.prog 35=some 24:=by kernel_rfl
theorem tElem_35:zaN Try.prog 35=some 9:=by kernel_rfl
theorem tStr_35:tStr Try.prog 35=false:=by kernel_rfl
theorem tInt_35:tInt Try.prog 35=none:=by kernel_rfl
theorem tzo_35:tzo Try.prog 35=some (.atom (.slice none 0 0)):=by kernel_rfl
theorem tAgg_40:tAgg Try.prog 40=some true:=by kernel_rfl
theorem tSize_40:zaP Try.prog 40=some 3:=by kernel_rfl
theorem zp6:zaV Try.prog 40=some 48:=by kernel_rfl
theorem tElem_40:zaN Try.prog 40=none:=by kernel_rfl
theorem tStr_40:tStr Try.prog 40=false:=by kernel_rfl
theorem tInt_40:tInt Try.prog 40=none:=by kernel_rfl
theorem zpr:tFld Try.prog 40 0=some (0,9):=by kernel_rfl
theorem zkK:za7 Try.prog 40 0=some (0,1):=by kernel_rfl
theorem zpq:tFld Try.prog 40 1=some (1,9):=by kernel_rfl
theorem zkJ:za7 Try.prog 40 1=some (1,1):=by kernel_rfl
theorem zpp:tFld Try.prog 40 2=some (2,9):=by kernel_rfl
theorem zkI:za7 Try.prog 40 2=some (2,1):=by kernel_rfl
theorem zo0:zct Try.prog 40=true:=by kernel_rfl
theorem tArr_40:tArr Try.prog 40=none:=by kernel_rfl
theorem tFlat_40:zg6 Try.prog 40=some [0,0,0]:=by kernel_rfl
theorem tzo_40:tzo Try.prog 40=some (.agg [.atom (.string ⟨#[]⟩),.atom (.string ⟨#[]⟩),.atom (.string ⟨#[]⟩)]):=by kernel_rfl
theorem tAgg_41:tAgg Try.prog 41=some false:=by kernel_rfl
theorem tSize_41:zaP Try.prog 41=some 1:=by kernel_rfl
theorem zp5:zaV Try.prog 41=some 8:=by kernel_rfl
theorem tElem_41:zaN Try.prog 41=none:=by kernel_rfl
theorem tStr_41:tStr Try.prog 41=false:=by kernel_rfl
theorem tInt_41:tInt Try.prog 41=some .i64:=by kernel_rfl
theorem tUnd_41:((Try.prog.underlying 41).isSome=true):=by kernel_rfl
theorem tzo_41:tzo Try.prog 41=some (.atom (.int .i64 0)):=by kernel_rfl
theorem tAgg_48:tAgg Try.prog 48=some true:=by kernel_rfl
theorem tSize_48:zaP Try.prog 48=some 4:=by kernel_rfl
theorem zp4:zaV Try.prog 48=some 56:=by kernel_rfl
theorem tElem_48:zaN Try.prog 48=none:=by kernel_rfl
theorem tStr_48:tStr Try.prog 48=false:=by kernel_rfl
theorem tInt_48:tInt Try.prog 48=none:=by kernel_rfl
theorem zpo:tFld Try.prog 48 0=some (0,9):=by kernel_rfl
theorem zkH:za7 Try.prog 48 0=some (0,1):=by kernel_rfl
theorem zpn:tFld Try.prog 48 1=some (1,9):=by kernel_rfl
theorem zkG:za7 Try.prog 48 1=some (1,1):=by kernel_rfl
theorem zpm:tFld Try.prog 48 2=some (2,9):=by kernel_rfl
theorem zkF:za7 Try.prog 48 2=some (2,1):=by kernel_rfl
theorem zpl:tFld Try.prog 48 3=some (3,3):=by kernel_rfl
theorem zkE:za7 Try.prog 48 3=some (3,1):=by kernel_rfl
theorem zoZ:zct Try.prog 48=true:=by kernel_rfl
theorem tArr_48:tArr Try.prog 48=none:=by kernel_rfl
theorem tFlat_48:zg6 Try.prog 48=some [0,0,0,2]:=by kernel_rfl
theorem tzo_48:tzo Try.prog 48=some (.agg [.atom (.string ⟨#[]⟩),.atom (.string ⟨#[]⟩),.atom (.string ⟨#[]⟩),.atom (.int .i64 0)]):=by kernel_rfl
theorem tAgg_50:tAgg Try.prog 50=some true:=by kernel_rfl
theorem tSize_50:zaP Try.prog 50=some 3:=by kernel_rfl
theorem zp3:zaV Try.prog 50=some 48:=by kernel_rfl
theorem tElem_50:zaN Try.prog 50=none:=by kernel_rfl
theorem tStr_50:tStr Try.prog 50=false:=by kernel_rfl
theorem tInt_50:tInt Try.prog 50=none:=by kernel_rfl
theorem zpk:tFld Try.prog 50 0=some (0,9):=by kernel_rfl
theorem zkD:za7 Try.prog 50 0=some (0,1):=by kernel_rfl
theorem zpj:tFld Try.prog 50 1=some (1,9):=by kernel_rfl
theorem zkC:za7 Try.prog 50 1=some (1,1):=by kernel_rfl
theorem zpi:tFld Try.prog 50 2=some (2,9):=by kernel_rfl
theorem zkB:za7 Try.prog 50 2=some (2,1):=by kernel_rfl
theorem zoY:zct Try.prog 50=true:=by kernel_rfl
theorem tArr_50:tArr Try.prog 50=none:=by kernel_rfl
theorem tFlat_50:zg6 Try.prog 50=some [0,0,0]:=by kernel_rfl
theorem tzo_50:tzo Try.prog 50=some (.agg [.atom (.string ⟨#[]⟩),.atom (.string ⟨#[]⟩),.atom (.string ⟨#[]⟩)]):=by kernel_rfl
theorem tAgg_52:tAgg Try.prog 52=some true:=by kernel_rfl
theorem tSize_52:zaP Try.prog 52=some 3:=by kernel_rfl
theorem zp2:zaV Try.prog 52=some 48:=by kernel_rfl
theorem tElem_52:zaN Try.prog 52=none:=by kernel_rfl
theorem tStr_52:tStr Try.prog 52=false:=by kernel_rfl
theorem tInt_52:tInt Try.prog 52=none:=by kernel_rfl
theorem zph:tFld Try.prog 52 0=some (0,9):=by kernel_rfl
theorem zkA:za7 Try.prog 52 0=some (0,1):=by kernel_rfl
theorem zpg:tFld Try.prog 52 1=some (1,9):=by kernel_rfl
theorem zkz:za7 Try.prog 52 1=some (1,1):=by kernel_rfl
theorem zpf:tFld Try.prog 52 2=some (2,9):=by kernel_rfl
theorem zky:za7 Try.prog 52 2=some (2,1):=by kernel_rfl
theorem zoX:zct Try.prog 52=true:=by kernel_rfl
theorem tArr_52:tArr Try.prog 52=none:=by kernel_rfl
theorem tFlat_52:zg6 Try.prog 52=some [0,0,0]:=by kernel_rfl
theorem tzo_52:tzo Try.prog 52=some (.agg [.atom (.string ⟨#[]⟩),.atom (.string ⟨#[]⟩),.atom (.string ⟨#[]⟩)]):=by kernel_rfl
theorem tAgg_56:tAgg Try.prog 56=some false:=by kernel_rfl
theorem tSize_56:zaP Try.prog 56=some 1:=by kernel_rfl
theorem zp1:zaV Try.prog 56=some 24:=by kernel_rfl
theorem tElem_56:zaN Try.prog 56=some 105:=by kernel_rfl
theorem tStr_56:tStr Try.prog 56=false:=by kernel_rfl
theorem tInt_56:tInt Try.prog 56=none:=by kernel_rfl
theorem tzo_56:tzo Try.prog 56=some (.atom (.slice none 0 0)):=by kernel_rfl
theorem tAgg_58:tAgg Try.prog 58=some true:=by kernel_rfl
theorem tSize_58:zaP Try.prog 58=some 4:=by kernel_rfl
theorem zp0:zaV Try.prog 58=some 64:=by kernel_rfl
theorem tElem_58:zaN Try.prog 58=none:=by kernel_rfl
theorem tStr_58:tStr Try.prog 58=false:=by kernel_rfl
theorem tInt_58:tInt Try.prog 58=none:=by kernel_rfl
theorem zpe:tFld Try.prog 58 0=some (0,3):=by kernel_rfl
theorem zkx:za7 Try.prog 58 0=some (0,1):=by kernel_rfl
theorem zpd:tFld Try.prog 58 1=some (1,3):=by kernel_rfl
theorem zkw:za7 Try.prog 58 1=some (1,1):=by kernel_rfl
theorem zpc:tFld Try.prog 58 2=some (2,22):=by kernel_rfl
theorem zkv:za7 Try.prog 58 2=some (2,1):=by kernel_rfl
theorem zpb:tFld Try.prog 58 3=some (3,56):=by kernel_rfl
theorem zku:za7 Try.prog 58 3=some (3,1):=by kernel_rfl
theorem zoW:zct Try.prog 58=true:=by kernel_rfl
theorem tzo_58:tzo Try.prog 58=some (.agg [.atom (.int .i64 0),.atom (.int .i64 0),.atom (.slice none 0 0),.atom (.slice none 0 0)]):=by kernel_rfl
theorem tAgg_66:tAgg Try.prog 66=some true:=by kernel_rfl
theorem tSize_66:zaP Try.prog 66=some 4:=by kernel_rfl
theorem zpZ:zaV Try.prog 66=some 56:=by kernel_rfl
theorem tElem_66:zaN Try.prog 66=none:=by kernel_rfl
theorem tStr_66:tStr Try.prog 66=false:=by kernel_rfl
theorem tInt_66:tInt Try.prog 66=none:=by kernel_rfl
theorem zpa:tFld Try.prog 66 0=some (0,9):=by kernel_rfl
theorem zkt:za7 Try.prog 66 0=some (0,1):=by kernel_rfl
theorem zo9:tFld Try.prog 66 1=some (1,9):=by kernel_rfl
theorem zks:za7 Try.prog 66 1=some (1,1):=by kernel_rfl
theorem zo8:tFld Try.prog 66 2=some (2,9):=by kernel_rfl
theorem zkr:za7 Try.prog 66 2=some (2,1):=by kernel_rfl
theorem zo7:tFld Try.prog 66 3=some (3,3):=by kernel_rfl
theorem zkq:za7 Try.prog 66 3=some (3,1):=by kernel_rfl
theorem zoV:zct Try.prog 66=true:=by kernel_rfl
theorem tArr_66:tArr Try.prog 66=none:=by kernel_rfl
theorem tFlat_66:zg6 Try.prog 66=some [0,0,0,2]:=by kernel_rfl
theorem tzo_66:tzo Try.prog 66=some (.agg [.atom (.string ⟨#[]⟩),.atom (.string ⟨#[]⟩),.atom (.string ⟨#[]⟩),.atom (.int .i64 0)]):=by kernel_rfl
theorem tAgg_67:tAgg Try.prog 67=some true:=by kernel_rfl
theorem tSize_67:zaP Try.prog 67=some 3:=by kernel_rfl
theorem zpY:zaV Try.prog 67=some 48:=by kernel_rfl
theorem tElem_67:zaN Try.prog 67=none:=by kernel_rfl
theorem tStr_67:tStr Try.prog 67=false:=by kernel_rfl
theorem tInt_67:tInt Try.prog 67=none:=by kernel_rfl
theorem zo6:tFld Try.prog 67 0=some (0,9):=by kernel_rfl
theorem zkp:za7 Try.prog 67 0=some (0,1):=by kernel_rfl
theorem zo5:tFld Try.prog 67 1=some (1,9):=by kernel_rfl
theorem zko:za7 Try.prog 67 1=some (1,1):=by kernel_rfl
theorem zo4:tFld Try.prog 67 2=some (2,9):=by kernel_rfl
theorem zkn:za7 Try.prog 67 2=some (2,1):=by kernel_rfl
theorem zoU:zct Try.prog 67=true:=by kernel_rfl
theorem tArr_67:tArr Try.prog 67=none:=by kernel_rfl
theorem tFlat_67:zg6 Try.prog 67=some [0,0,0]:=by kernel_rfl
theorem tzo_67:tzo Try.prog 67=some (.agg [.atom (.string ⟨#[]⟩),.atom (.string ⟨#[]⟩),.atom (.string ⟨#[]⟩)]):=by kernel_rfl
theorem tAgg_73:tAgg Try.prog 73=some false:=by kernel_rfl
theorem tSize_73:zaP Try.prog 73=some 1:=by kernel_rfl
theorem zpX:zaV Try.prog 73=some 8:=by kernel_rfl
theorem tElem_73:zaN Try.prog 73=none:=by kernel_rfl
theorem tStr_73:tStr Try.prog 73=false:=by kernel_rfl
theorem tInt_73:tInt Try.prog 73=none:=by kernel_rfl
theorem tzo_73:tzo Try.prog 73=some (.atom (.pointer none)):=by kernel_rfl
theorem tAgg_81:tAgg Try.prog 81=some false:=by kernel_rfl
theorem tSize_81:zaP Try.prog 81=some 1:=by kernel_rfl
theorem zpW:zaV Try.prog 81=some 8:=by kernel_rfl
theorem tElem_81:zaN Try.prog 81=none:=by kernel_rfl
theorem tStr_81:tStr Try.prog 81=false:=by kernel_rfl
theorem tInt_81:tInt Try.prog 81=none:=by kernel_rfl
theorem tzo_81:tzo Try.prog 81=some (.atom (.pointer none)):=by kernel_rfl
theorem tAgg_83:tAgg Try.prog 83=some true:=by kernel_rfl
theorem tSize_83:zaP Try.prog 83=some 4:=by kernel_rfl
theorem zpV:zaV Try.prog 83=some 64:=by kernel_rfl
theorem tElem_83:zaN Try.prog 83=none:=by kernel_rfl
theorem tStr_83:tStr Try.prog 83=false:=by kernel_rfl
theorem tInt_83:tInt Try.prog 83=none:=by kernel_rfl
theorem zo3:tFld Try.prog 83 0=some (0,58):=by kernel_rfl
theorem zkm:za7 Try.prog 83 0=some (0,4):=by kernel_rfl
theorem zoT:zct Try.prog 83=true:=by kernel_rfl
theorem tzo_83:tzo Try.prog 83=some (.agg [.atom (.int .i64 0),.atom (.int .i64 0),.atom (.slice none 0 0),.atom (.slice none 0 0)]):=by kernel_rfl
theorem tAgg_91:tAgg Try.prog 91=some false:=by kernel_rfl
theorem tSize_91:zaP Try.prog 91=some 1:=by kernel_rfl
theorem zpU:zaV Try.prog 91=some 24:=by kernel_rfl
theorem tElem_91:zaN Try.prog 91=some 22:=by kernel_rfl
theorem tStr_91:tStr Try.prog 91=false:=by kernel_rfl
theorem tInt_91:tInt Try.prog 91=none:=by kernel_rfl
theorem tzo_91:tzo Try.prog 91=some (.atom (.slice none 0 0)):=by kernel_rfl
theorem tAgg_93:tAgg Try.prog 93=some false:=by kernel_rfl
theorem tSize_93:zaP Try.prog 93=some 1:=by kernel_rfl
theorem zpT:zaV Try.prog 93=some 8:=by kernel_rfl
theorem tElem_93:zaN Try.prog 93=none:=by kernel_rfl
theorem tStr_93:tStr Try.prog 93=false:=by kernel_rfl
theorem tInt_93:tInt Try.prog 93=none:=by kernel_rfl
theorem tMap_93:tMap Try.prog 93=some (96,95):=by kernel_rfl
theorem tzo_93:tzo Try.prog 93=some (.atom (.map none)):=by kernel_rfl
theorem tAgg_94:tAgg Try.prog 94=some false:=by kernel_rfl
theorem tSize_94:zaP Try.prog 94=some 1:=by kernel_rfl
theorem zpS:zaV Try.prog 94=some 8:=by kernel_rfl
theorem tElem_94:zaN Try.prog 94=none:=by kernel_rfl
theorem tStr_94:tStr Try.prog 94=false:=by kernel_rfl
theorem tInt_94:tInt Try.prog 94=none:=by kernel_rfl
theorem tzo_94:tzo Try.prog 94=some (.atom (.nilFunc)):=by kernel_rfl
theorem tAgg_95:tAgg Try.prog 95=some false:=by kernel_rfl
theorem tSize_95:zaP Try.prog 95=some 1:=by kernel_rfl
theorem zpR:zaV Try.prog 95=some 8:=by kernel_rfl
theorem tElem_95:zaN Try.prog 95=none:=by kernel_rfl
theorem tStr_95:tStr Try.prog 95=false:=by kernel_rfl
theorem tInt_95:tInt Try.prog 95=none:=by kernel_rfl
theorem tzo_95:tzo Try.prog 95=some (.atom (.pointer none)):=by kernel_rfl
theorem tAgg_96:tAgg Try.prog 96=some true:=by kernel_rfl
theorem tSize_96:zaP Try.prog 96=some 2:=by kernel_rfl
theorem zpQ:zaV Try.prog 96=some 16:=by kernel_rfl
theorem tElem_96:zaN Try.prog 96=none:=by kernel_rfl
theorem tStr_96:tStr Try.prog 96=false:=by kernel_rfl
theorem tInt_96:tInt Try.prog 96=none:=by kernel_rfl
theorem tArr_96:tArr Try.prog 96=some (2,3):=by kernel_rfl
theorem zoR (i:Nat):za7 Try.prog 96 i=some (i * 1,1):=by rfl
theorem zoS:zct Try.prog 96=true:=by kernel_rfl
theorem tEqG_96:Try.prog.eqGuardType Try.prog.depth 96=false:=by kernel_rfl
theorem tzo_96:tzo Try.prog 96=some (.agg [.atom (.int .i64 0),.atom (.int .i64 0)]):=by kernel_rfl
theorem tAgg_98:tAgg Try.prog 98=some false:=by kernel_rfl
theorem tSize_98:zaP Try.prog 98=some 1:=by kernel_rfl
theorem zpP:zaV Try.prog 98=some 8:=by kernel_rfl
theorem tElem_98:zaN Try.prog 98=none:=by kernel_rfl
theorem tStr_98:tStr Try.prog 98=false:=by kernel_rfl
theorem tInt_98:tInt Try.prog 98=none:=by kernel_rfl
theorem tMap_98:tMap Try.prog 98=some (9,4):=by kernel_rfl
theorem tzo_98:tzo Try.prog 98=some (.atom (.map none)):=by kernel_rfl
theorem tAgg_100:tAgg Try.prog 100=some true:=by kernel_rfl
theorem zoQ:zaP Try.prog 100=some 2:=by kernel_rfl
theorem znm:zaV Try.prog 100=some 16:=by kernel_rfl
theorem zpO:zaN Try.prog 100=none:=by kernel_rfl
theorem tStr_100:tStr Try.prog 100=false:=by kernel_rfl
theorem tInt_100:tInt Try.prog 100=none:=by kernel_rfl
theorem zm6:tFld Try.prog 100 0=some (0,98):=by kernel_rfl
theorem ziM:za7 Try.prog 100 0=some (0,1):=by kernel_rfl
theorem zm5:tFld Try.prog 100 1=some (1,4):=by kernel_rfl
theorem ziL:za7 Try.prog 100 1=some (1,1):=by kernel_rfl
theorem zmY:zct Try.prog 100=true:=by kernel_rfl
theorem tzo_100:tzo Try.prog 100=some (.agg [.atom (.map none),.atom (.bool false)]):=by kernel_rfl
theorem tAgg_105:tAgg Try.prog 105=some true:=by kernel_rfl
theorem zoP:zaP Try.prog 105=some 4:=by kernel_rfl
theorem znl:zaV Try.prog 105=some 48:=by kernel_rfl
theorem zpN:zaN Try.prog 105=none:=by kernel_rfl
theorem tStr_105:tStr Try.prog 105=false:=by kernel_rfl
theorem tInt_105:tInt Try.prog 105=none:=by kernel_rfl
theorem zm4:tFld Try.prog 105 0=some (0,3):=by kernel_rfl
theorem ziK:za7 Try.prog 105 0=some (0,1):=by kernel_rfl
theorem zm3:tFld Try.prog 105 1=some (1,3):=by kernel_rfl
theorem ziJ:za7 Try.prog 105 1=some (1,1):=by kernel_rfl
theorem zm2:tFld Try.prog 105 2=some (2,9):=by kernel_rfl
theorem ziI:za7 Try.prog 105 2=some (2,1):=by kernel_rfl
theorem zm1:tFld Try.prog 105 3=some (3,9):=by kernel_rfl
theorem ziH:za7 Try.prog 105 3=some (3,1):=by kernel_rfl
theorem zmX:zct Try.prog 105=true:=by kernel_rfl
theorem tArr_105:tArr Try.prog 105=none:=by kernel_rfl
theorem zpy:zg6 Try.prog 105=some [2,2,0,0]:=by kernel_rfl
theorem tzo_105:tzo Try.prog 105=some (.agg [.atom (.int .i64 0),.atom (.int .i64 0),.atom (.string ⟨#[]⟩),.atom (.string ⟨#[]⟩)]):=by kernel_rfl
theorem tAgg_108:tAgg Try.prog 108=some false:=by kernel_rfl
theorem zoO:zaP Try.prog 108=some 1:=by kernel_rfl
theorem znk:zaV Try.prog 108=some 8:=by kernel_rfl
theorem zpM:zaN Try.prog 108=none:=by kernel_rfl
theorem tStr_108:tStr Try.prog 108=false:=by kernel_rfl
theorem tInt_108:tInt Try.prog 108=none:=by kernel_rfl
theorem tMap_108:tMap Try.prog 108=some (109,4):=by kernel_rfl
theorem tzo_108:tzo Try.prog 108=some (.atom (.map none)):=by kernel_rfl
theorem tAgg_109:tAgg Try.prog 109=some true:=by kernel_rfl
theorem zoN:zaP Try.prog 109=some 3:=by kernel_rfl
theorem znj:zaV Try.prog 109=some 24:=by kernel_rfl
theorem zpL:zaN Try.prog 109=none:=by kernel_rfl
theorem tStr_109:tStr Try.prog 109=false:=by kernel_rfl
theorem tInt_109:tInt Try.prog 109=none:=by kernel_rfl
theorem tArr_109:tArr Try.prog 109=some (3,3):=by kernel_rfl
theorem zmU (i:Nat):za7 Try.prog 109 i=some (i * 1,1):=by rfl
theorem zmW:zct Try.prog 109=true:=by kernel_rfl
theorem tEqG_109:Try.prog.eqGuardType Try.prog.depth 109=false:=by kernel_rfl
theorem tzo_109:tzo Try.prog 109=some (.agg [.atom (.int .i64 0),.atom (.int .i64 0),.atom (.int .i64 0)]):=by kernel_rfl
theorem tAgg_110:tAgg Try.prog 110=some false:=by kernel_rfl
theorem zoM:zaP Try.prog 110=some 1:=by kernel_rfl
theorem zni:zaV Try.prog 110=some 24:=by kernel_rfl
theorem zpK:zaN Try.prog 110=some 109:=by kernel_rfl
theorem tStr_110:tStr Try.prog 110=false:=by kernel_rfl
theorem tInt_110:tInt Try.prog 110=none:=by kernel_rfl
theorem tzo_110:tzo Try.prog 110=some (.atom (.slice none 0 0)):=by kernel_rfl
theorem tAgg_111:tAgg Try.prog 111=some false:=by kernel_rfl
theorem zoL:zaP Try.prog 111=some 1:=by kernel_rfl
theorem znh:zaV Try.prog 111=some 8:=by kernel_rfl
theorem zpJ:zaN Try.prog 111=none:=by kernel_rfl
theorem tStr_111:tStr Try.prog 111=false:=by kernel_rfl
theorem tInt_111:tInt Try.prog 111=none:=by kernel_rfl
theorem tMap_111:tMap Try.prog 111=some (9,23):=by kernel_rfl
theorem tzo_111:tzo Try.prog 111=some (.atom (.map none)):=by kernel_rfl
theorem tAgg_113:tAgg Try.prog 113=some true:=by kernel_rfl
theorem zoK:zaP Try.prog 113=some 4:=by kernel_rfl
theorem zng:zaV Try.prog 113=some 80:=by kernel_rfl
theorem zpI:zaN Try.prog 113=none:=by kernel_rfl
theorem tStr_113:tStr Try.prog 113=false:=by kernel_rfl
theorem tInt_113:tInt Try.prog 113=none:=by kernel_rfl
theorem zm0:tFld Try.prog 113 0=some (0,27):=by kernel_rfl
theorem ziG:za7 Try.prog 113 0=some (0,3):=by kernel_rfl
theorem zmZ:tFld Try.prog 113 1=some (3,111):=by kernel_rfl
theorem ziF:za7 Try.prog 113 1=some (3,1):=by kernel_rfl
theorem zmV:zct Try.prog 113=true:=by kernel_rfl
theorem tzo_113:tzo Try.prog 113=some (.agg [.atom (.slice none 0 0),.atom (.slice none 0 0),.atom (.slice none 0 0),.atom (.map none)]):=by kernel_rfl
theorem tAgg_116:tAgg Try.prog 116=some false:=by kernel_rfl
theorem zoJ:zaP Try.prog 116=some 1:=by kernel_rfl
theorem znf:zaV Try.prog 116=some 8:=by kernel_rfl
theorem zpH:zaN Try.prog 116=none:=by kernel_rfl
theorem tStr_116:tStr Try.prog 116=false:=by kernel_rfl
theorem tInt_116:tInt Try.prog 116=none:=by kernel_rfl
theorem tzo_116:tzo Try.prog 116=some (.atom (.nilFunc)):=by kernel_rfl
theorem tAgg_121:tAgg Try.prog 121=some false:=by kernel_rfl
theorem zoI:zaP Try.prog 121=some 1:=by kernel_rfl
theorem zne:zaV Try.prog 121=some 8:=by kernel_rfl
theorem zpG:zaN Try.prog 121=none:=by kernel_rfl
theorem tStr_121:tStr Try.prog 121=false:=by kernel_rfl
theorem tInt_121:tInt Try.prog 121=none:=by kernel_rfl
theorem tzo_121:tzo Try.prog 121=some (.atom (.nilFunc)):=by kernel_rfl
theorem tAgg_124:tAgg Try.prog 124=some false:=by kernel_rfl
theorem zoH:zaP Try.prog 124=some 1:=by kernel_rfl
theorem znd:zaV Try.prog 124=some 8:=by kernel_rfl
theorem zpF:zaN Try.prog 124=none:=by kernel_rfl
theorem tStr_124:tStr Try.prog 124=false:=by kernel_rfl
theorem tInt_124:tInt Try.prog 124=some .u64:=by kernel_rfl
theorem tUnd_124:((Try.prog.underlying 124).isSome=true):=by kernel_rfl
theorem tzo_124:tzo Try.prog 124=some (.atom (.int .u64 0)):=by kernel_rfl
theorem tAgg_130:tAgg Try.prog 130=some false:=by kernel_rfl
theorem zoG:zaP Try.prog 130=some 1:=by kernel_rfl
theorem znc:zaV Try.prog 130=some 8:=by kernel_rfl
theorem zpE:zaN Try.prog 130=none:=by kernel_rfl
theorem tStr_130:tStr Try.prog 130=false:=by kernel_rfl
theorem tInt_130:tInt Try.prog 130=none:=by kernel_rfl
theorem tzo_130:tzo Try.prog 130=some (.atom (.nilFunc)):=by kernel_rfl
theorem tAgg_137:tAgg Try.prog 137=some false:=by kernel_rfl
theorem zoF:zaP Try.prog 137=some 1:=by kernel_rfl
theorem znb:zaV Try.prog 137=some 8:=by kernel_rfl
theorem zpD:zaN Try.prog 137=none:=by kernel_rfl
theorem tStr_137:tStr Try.prog 137=false:=by kernel_rfl
theorem tInt_137:tInt Try.prog 137=some .i64:=by kernel_rfl
theorem tUnd_137:((Try.prog.underlying 137).isSome=true):=by kernel_rfl
theorem tzo_137:tzo Try.prog 137=some (.atom (.int .i64 0)):=by kernel_rfl
theorem tAgg_144:tAgg Try.prog 144=some false:=by kernel_rfl
theorem zoE:zaP Try.prog 144=some 1:=by kernel_rfl
theorem zna:zaV Try.prog 144=some 4:=by kernel_rfl
theorem zpC:zaN Try.prog 144=none:=by kernel_rfl
theorem tStr_144:tStr Try.prog 144=false:=by kernel_rfl
theorem tInt_144:tInt Try.prog 144=some .u32:=by kernel_rfl
theorem tUnd_144:((Try.prog.underlying 144).isSome=true):=by kernel_rfl
theorem tzo_144:tzo Try.prog 144=some (.atom (.int .u32 0)):=by kernel_rfl
theorem tAgg_146:tAgg Try.prog 146=some false:=by kernel_rfl
theorem zoD:zaP Try.prog 146=some 1:=by kernel_rfl
theorem zm9:zaV Try.prog 146=some 8:=by kernel_rfl
theorem zpB:zaN Try.prog 146=none:=by kernel_rfl
theorem tStr_146:tStr Try.prog 146=false:=by kernel_rfl
theorem tInt_146:tInt Try.prog 146=some .u64:=by kernel_rfl
theorem tUnd_146:((Try.prog.underlying 146).isSome=true):=by kernel_rfl
theorem tzo_146:tzo Try.prog 146=some (.atom (.int .u64 0)):=by kernel_rfl
theorem tAgg_153:tAgg Try.prog 153=some false:=by kernel_rfl
theorem zoC:zaP Try.prog 153=some 1:=by kernel_rfl
theorem zm8:zaV Try.prog 153=some 8:=by kernel_rfl
theorem zpA:zaN Try.prog 153=none:=by kernel_rfl
theorem tStr_153:tStr Try.prog 153=false:=by kernel_rfl
theorem tInt_153:tInt Try.prog 153=some .u64:=by kernel_rfl
theorem tUnd_153:((Try.prog.underlying 153).isSome=true):=by kernel_rfl
theorem tzo_153:tzo Try.prog 153=some (.atom (.int .u64 0)):=by kernel_rfl
theorem tAgg_157:tAgg Try.prog 157=some false:=by kernel_rfl
theorem zoB:zaP Try.prog 157=some 1:=by kernel_rfl
theorem zm7:zaV Try.prog 157=some 8:=by kernel_rfl
theorem zpz:zaN Try.prog 157=none:=by kernel_rfl
theorem tStr_157:tStr Try.prog 157=false:=by kernel_rfl
theorem tInt_157:tInt Try.prog 157=none:=by kernel_rfl
theorem tzo_157:tzo Try.prog 157=some (.atom (.pointer none)):=by kernel_rfl
theorem znV:PV.junk.flatB=true:=rfl
theorem znW (v:Value):(PV.atom v).flatB=true:=rfl
theorem flatB_ob (i sz off len:Nat):(PV.ob i sz off len).flatB=true:=rfl
theorem flatB_mp (i:Nat):(PV.mp i).flatB=true:=rfl
theorem zrg (i sz k c:Nat):(PV.ptr i sz k c).flatB=true:=rfl
theorem zrh (l:List PV):(PV.agg l).flatB=zha l:=by simp only[PV.flatB]
theorem zre (l:List PV):(PV.tup l).flatB=zha l:=by simp only[PV.flatB]
theorem flatB_fn (f:FuncId) (l:List PV):(PV.fn f l).flatB=zha l:=by simp only[PV.flatB]
theorem zrf (sz:Nat):(PV.sl sz []).flatB=true:=rfl
theorem zrd:zha []=true:=rfl
theorem znU (p:PV) (l:List PV):zha (p :: l)=(p.flatB && zha l):=rfl
def encI (n:Int):PV:=.atom (.int .i64 n)
def encS (s:ByteArray):PV:=.atom (.string s)
def ints (l:List Int):PV:=.sl 1 (l.map encI)
def strs (l:List ByteArray):PV:=.sl 1 (l.map encS)
def li (l:List Int) (i:Nat):Int:=l.getD i 0
def ls (l:List ByteArray) (i:Nat):ByteArray:=l.getD i ByteArray.empty
theorem zbi{l:List Int}{k:Nat}(h:k<l.length):(l.map encI).getD k .junk=encI (li l k):=by
  simp[li,List.getD_eq_getElem?_getD,h]
theorem zaM{l:List ByteArray}{k:Nat}(h:k<l.length):(l.map encS).getD k .junk=encS (ls l k):=by
  simp[ls,List.getD_eq_getElem?_getD,h]
theorem zbh{α:Type}(f:α→PV) (h:∀x,(f x).pure=true) (l:List α):zaw (l.map f)=true:=by
  rw[zbr,List.all_map];exact List.all_eq_true.2 fun x _=>h x
theorem zah (l:List Int):(ints l).pure=true:=zbh encI (fun _=>rfl) l
theorem zag (l:List ByteArray):(strs l).pure=true:=zbh encS (fun _=>rfl) l
theorem zbQ (ρ:Nat→Nat) (l:List Int):(ints l).ren ρ=ints l:=za8 ρ _ (zah l)
theorem zbP (ρ:Nat→Nat) (l:List ByteArray):(strs l).ren ρ=strs l:=za8 ρ _ (zag l)
theorem zae{x:Int}(h0 : -9223372036854775808≤x) (h1:x≤9223372036854775807):IntKind.i64.wrap x=x:=by rw[IntKind.wrap_i64];omega
mutual
theorem zja:∀p:PV,p.pure=true→p.noOb=true
  | .junk,_=>rfl
  | .atom _,_=>rfl
  | .agg l,h=>by simp only[PV.pure] at h;simp only[PV.noOb,zdj l h]
  | .tup l,h=>by simp only[PV.pure] at h;simp only[PV.noOb,zdj l h]
  | .sl _ l,_=>rfl
  | .own _ _,h=>by cases h
  | .ob _ _ _ _,h=>by cases h
  | .ptr _ _ _ _,h=>by cases h
  | .fptr _ l _ _,_=>rfl
  | .fmp _,_=>rfl
  | .mp _,h=>by cases h
  | .it _,h=>by cases h
  | .mark _,h=>by cases h
  | .is _ _,h=>by cases h
  | .amp,_=>rfl
  | .fn _ l,h=>by simp only[PV.pure] at h;simp only[PV.noOb,zdj l h]
theorem zdj:∀l:List PV,zaw l=true→zf6 l=true
  | [],_=>rfl
  | p :: l,h=>by simp only[zaw,Bool.and_eq_true] at h;simp only[zf6,zja p h.1,zdj l h.2];rfl
end
theorem zas (H:Nat→Option AO) (keep:Nat→Bool) (n:Nat) {p:PV}(h:p.pure=true):sealed H keep n p=p:=ze6 H keep n p (zja p h)
theorem zak (H:Nat→Option AO) (keep:Nat→Bool) (n:Nat) {l:List PV}(h:zaw l=true):l.map (sealed H keep n)=l:=zcM H keep n l (zdj l h)
theorem sp{H:Nat→Option AO}{keep:Nat→Bool}{n:Nat}{ρ:Nat→Nat}{p:PV}(h:p.pure=true):sealed H keep n p=p.ren ρ:=(zas H keep n h).trans (za8 ρ p h).symm
theorem zaO (ρ:Nat→Nat) {l:List PV}(h:zaw l=true):l.map (PV.ren ρ)=l:=by
  have:=zbo ρ l h
  rwa [za4] at this
theorem zar (a b:List PV):zaw (a++b)=(zaw a && zaw b):=by rw[zbr,zbr,zbr,List.all_append]
theorem zal (l:List Int):zaw (l.map encI)=true:=zbh encI (fun _=>rfl) l
theorem zaq (l:List ByteArray):zaw (l.map encS)=true:=zbh encS (fun _=>rfl) l
theorem zau (l:List (List Int)):zaw (l.map ints)=true:=zbh ints zah l
theorem zat (l:List (List ByteArray)):zaw (l.map strs)=true:=zbh strs zag l
theorem zap (H:Nat→Option AO) (keep:Nat→Bool) (n:Nat) (l:List Int):(l.map encI).map (sealed H keep n)=l.map encI:=zak H keep n (zal l)
theorem zao (H:Nat→Option AO) (keep:Nat→Bool) (n:Nat) (l:List ByteArray):(l.map encS).map (sealed H keep n)=l.map encS:=zak H keep n (zaq l)
theorem zan (H:Nat→Option AO) (keep:Nat→Bool) (n:Nat) (l:List (List Int)):(l.map ints).map (sealed H keep n)=l.map ints:=zak H keep n (zau l)
theorem zam (H:Nat→Option AO) (keep:Nat→Bool) (n:Nat) (l:List (List ByteArray)):(l.map strs).map (sealed H keep n)=l.map strs:=zak H keep n (zat l)
theorem zaC (ρ:Nat→Nat) (l:List Int):(l.map encI).map (PV.ren ρ)=l.map encI:=zaO ρ (zal l)
theorem zaB (ρ:Nat→Nat) (l:List ByteArray):(l.map encS).map (PV.ren ρ)=l.map encS:=zaO ρ (zaq l)
theorem zaA (ρ:Nat→Nat) (l:List (List Int)):(l.map ints).map (PV.ren ρ)=l.map ints:=zaO ρ (zau l)
theorem zaz (ρ:Nat→Nat) (l:List (List ByteArray)):(l.map strs).map (PV.ren ρ)=l.map strs:=zaO ρ (zat l)
theorem za1 (ρ:Nat→Nat) (l:List Int):renL ρ (l.map encI)=l.map encI:=zbo ρ _ (zal l)
theorem za0 (ρ:Nat→Nat) (l:List ByteArray):renL ρ (l.map encS)=l.map encS:=zbo ρ _ (zaq l)
theorem zaZ (ρ:Nat→Nat) (l:List (List Int)):renL ρ (l.map ints)=l.map ints:=zbo ρ _ (zau l)
theorem zaY (ρ:Nat→Nat) (l:List (List ByteArray)):renL ρ (l.map strs)=l.map strs:=zbo ρ _ (zat l)
theorem zrb (l:List ByteArray):(l.map encS).all PV.flatB=true:=by rw[List.all_map];exact List.all_eq_true.2 fun _ _=>rfl
theorem one_encI (l:List Int):((l.map encI).all fun q=>q.cells.all PV.one)=true:=by rw[List.all_map];exact List.all_eq_true.2 fun _ _=>rfl
theorem one_encS (l:List ByteArray):((l.map encS).all fun q=>q.cells.all PV.one)=true:=by rw[List.all_map];exact List.all_eq_true.2 fun _ _=>rfl
theorem one_ints (l:List (List Int)):((l.map ints).all fun q=>q.cells.all PV.one)=true:=by rw[List.all_map];exact List.all_eq_true.2 fun _ _=>rfl
theorem one_strs (l:List (List ByteArray)):((l.map strs).all fun q=>q.cells.all PV.one)=true:=by rw[List.all_map];exact List.all_eq_true.2 fun _ _=>rfl
theorem zaf{x:Int}(h0:0≤x) (h1:x≤255):IntKind.u8.wrap x=x:=by rw[IntKind.wrap_u8];omega
theorem ResOk.one{S:St}{ts:List Nat}{r:PV}{o o':AO}(i:Nat) (k:Nat) (h0:S.obj i=some o') (hr:sealed S.obj (fun j=>[i].contains j) k (retV S ts)=r.ren (rmap [i] S.nx)) (hs:o'.sz=o.sz)
    (he:o'.els.map (sealed S.obj (fun j=>[i].contains j) k)=o.els.map (PV.ren (rmap [i] S.nx))):ResOk S ts r [o]:=
  ⟨[i],k,rfl,by simp,hr,fun j ob hj=>by
    cases j with
    | zero => obtain rfl:o=ob:=by simpa using hj
              exact⟨o',h0,hs,he⟩
    | succ j=>simp at hj⟩
theorem ResOk.two{S:St}{ts:List Nat}{r:PV}{o o' u u':AO}(i j:Nat) (k:Nat) (hij:i≠j) (h0:S.obj i=some o') (h1:S.obj j=some u') (hr:sealed S.obj (fun x=>[i,j].contains x) k (retV S ts)=r.ren (rmap [i,j] S.nx))
    (hs:o'.sz=o.sz) (hs2:u'.sz=u.sz)
    (he:o'.els.map (sealed S.obj (fun x=>[i,j].contains x) k)=o.els.map (PV.ren (rmap [i,j] S.nx))) (he2:u'.els.map (sealed S.obj (fun x=>[i,j].contains x) k)=u.els.map (PV.ren (rmap [i,j] S.nx))):ResOk S ts r [o,u]:=
  ⟨[i, j], k,rfl,by simp[hij],hr,fun n ob hn=>by
    match n with
    | 0 => obtain rfl:o=ob:=by simpa using hn
           exact⟨o',h0,hs,he⟩
    | 1 => obtain rfl:u=ob:=by simpa using hn
           exact⟨u',h1,hs2,he2⟩
    | n+2=>simp at hn⟩
theorem ResOk.row{S:St}{ts:List Nat}{r:PV}{sz:Nat}{els els':List PV}(i:Nat) (h0:S.obj i=some ⟨sz,els⟩) (he:els=els') (hp:zaw els'=true) (hr:sealed S.obj (fun j=>[i].contains j) 4 (retV S ts)=r.ren (rmap [i] S.nx)):ResOk S ts r [⟨sz,els'⟩]:=by
  subst he
  exact ResOk.one i 4 h0 hr rfl (by rw[zak _ _ _ hp,zaO _ hp])
theorem LeqS.row{S:St}{L:List Nat}{i k sz:Nat}{els els':List PV}(h0:S.obj (rmap L S.nx i)=some ⟨sz,els⟩) (he:els=els') (hp:zaw els'=true):
    ∃o',S.obj (rmap L S.nx i)=some o'∧o'.sz=(AO.mk sz els').sz∧o'.els.map (sealed S.obj (fun i=>L.contains i) k)=(AO.mk sz els').els.map (PV.ren (rmap L S.nx)):=
  ⟨_,h0,rfl,by subst he;show els.map _=els.map _;rw[zak _ _ _ hp,zaO _ hp]⟩
@[congr] theorem Tri.congr {P:Program} {n:Nat} {c:Code} {S S':St} {Q:Exit→St→Prop} (h:S=S'):Tri P n c S Q=Tri P n c S' Q:=by rw[h]
def notEnt:PV→Bool
  | .agg _ | .sl _ _ | .ob _ _ _ _ | .ptr _ _ _ _ | .fptr _ _ _ _ | .fn _ _ | .mp _=>true
  | .atom (.tuple _)=>false
  | .atom _=>true
  | _=>false
theorem zjh{D:Nat→Prop}{μ:Nat→Option Nat}{F:Nat→Prop}{w:World}{p:PV}{x:Array Value}(h:notEnt p=true) (hr:Rep D μ F w p (.tuple x)):False:=by
  cases hr<;>cases h
theorem ObjOk.cellsOf{D:Nat→Prop}{μ:Nat→Option Nat}{F:Nat→Prop}{w:World}{b k:Nat}{o:AO}{p:PV}(h:ObjOk D μ F w b o) (hk:o.els[k]? = some p) (hp:notEnt p=true):CellsOk D μ F w b o:=by
  rcases h with h|⟨es,ck,_,_,h3,h4⟩|⟨rem,cur,h1,h2⟩
  · exact h
  · obtain⟨hl,he⟩:=List.getElem?_eq_some_iff.1 hk
    have:=h4 k hl
    rw[he] at this
    exact(zjh hp this).elim
  · rw[h1] at hk
    match k,hk with
    | 0,hk=>cases hk;cases hp
    | 1,hk=>
      cases hk
      rcases h2 with ⟨_,_,_,_,_,_,_,_,_,_,h7⟩|⟨_,_,_,_,_,h7⟩
      · rcases h7 with h7|⟨e,_,_,h7⟩
        · subst h7;cases hp
        · exact(zjh hp h7).elim
      · subst h7;cases hp
    | k+2,hk=>simp at hk
theorem Tri.shuffle{P:Program}{n:Nat}{c:Code}{S:St}{Q:Exit→St→Prop}(d i:Nat) (o:AO) (els':List PV) (hd:S.get d=.mp i) (ho:S.obj i=some o) (hp:o.els.Perm els') (ht:Tri P n c ⟨S.env,(i,some ⟨o.sz,els'⟩) :: S.hp,S.nx,S.gh⟩ Q):Tri P n c S Q:=fun w0 F0 D μ F G a w hS=>by
  refine ht w0 F0 D μ F G a w ⟨hS.defers,hS.size,hS.env,?_,hS.ids,hS.ghl,hS.gh⟩
  have hr:=hS.env d
  rw[hd] at hr
  generalize a.tmps.getD d undef=u at hr
  have e:(St.mk S.env ((i,some ⟨o.sz,els'⟩) :: S.hp) S.nx S.gh).obj=upd S.obj i (some ⟨o.sz,els'⟩):=by
    funext j
    show(lk ((i,_) :: S.hp) j).join=_
    unfold upd
    by_cases hj:i=j
    · rw[lk,if_pos hj,if_pos hj.symm];rfl
    · rw[lk,if_neg hj,if_neg (Ne.symm hj)];rfl
  rw[e]
  cases hr with
  | mp _ b h1 hb hk=>exact hS.heap.shuffle ho hb hk hp
def St.born (S:St) (d sz:Nat):St:=⟨(d,.ob S.nx sz 0 0) :: S.env,(S.nx,some ⟨sz,[]⟩) :: S.hp,S.nx+1,S.gh⟩
theorem zgE{D:Nat→Prop}{μ:Nat→Option Nat}{F:Nat→Prop}{w:World}{v:Value}(h:Rep D μ F w (.atom (.slice none 0 0)) v):v=.slice none 0 0:=by cases h;rfl
theorem Tri.born{P:Program}{n:Nat}{c:Code}{S:St}{Q:Exit→St→Prop}(d sz:Nat) (h:S.get d=.atom (.slice none 0 0)) (ht:Tri P n c (S.born d sz) Q):Tri P n c S Q:=fun w0 F0 D μ F G a w hS=>by
  have hn:¬D S.nx:=fun hd=>Nat.lt_irrefl _ (hS.ids _ hd)
  have hold:=zeM (D:=D) (μ:=μ) (none:Option Nat) hn
  refine ht w0 F0 (also D S.nx) (upd μ S.nx none) F G a w ⟨hS.defers,hS.size,fun s=>?_,?_,fun i hi=>?_,hS.ghl,fun i hi=>?_⟩
  · show Rep _ _ _ _ ((lk ((d,.ob S.nx sz 0 0) :: S.env) s).getD .junk) _
    unfold lk
    split
    · rename_i hs
      subst hs
      have:=hS.env d
      rw[h] at this
      rw[zgE this]
      exact .obn S.nx sz (.inr rfl) (zbg ..)
    · exact(hS.env s).stay (Stay.refl _ _) hold (fun _ h=>h)
  · have:=HeapSim.add hS.heap S.nx hn ⟨sz,[]⟩ none (Stay.refl _ _) hS.heap.ext (Nat.le_refl _) rfl (fun b hb=>by cases hb) (fun _ _ _ _ _=>rfl)
    have e:(S.born d sz).obj=upd S.obj S.nx (some ⟨sz,[]⟩):=by
      funext i
      show(lk ((S.nx,some ⟨sz,[]⟩) :: S.hp) i).join=_
      unfold lk upd
      by_cases hi:S.nx=i
      · rw[if_pos hi,if_pos hi.symm];rfl
      · rw[if_neg hi,if_neg (Ne.symm hi)];rfl
    rw[e];exact this
  · rcases hi with hi|rfl
    · exact Nat.lt_succ_of_lt (hS.ids i hi)
    · exact Nat.lt_succ_self _
  · exact(hS.gh i hi).stay (Stay.refl _ _) hold (fun _ h=>h)
theorem Tri.asSl{P:Program}{n:Nat}{c:Code}{S:St}{Q:Exit→St→Prop}(d sz:Nat) (h:S.get d=.atom (.slice none 0 0)) (ht:Tri P n c (S.known d (.sl sz [])) Q):Tri P n c S Q:=fun w0 F0 D μ F G a w hS=>by
  refine ht w0 F0 D μ F G a w ⟨hS.defers,hS.size,fun s=>?_,hS.heap,hS.ids,hS.ghl,hS.gh⟩
  show Rep _ _ _ _ ((lk ((d,.sl sz []) :: S.env) s).getD .junk) _
  unfold lk
  split
  · rename_i hs
    subst hs
    have:=hS.env d
    rw[h] at this
    rw[zgE this]
    exact .sl0 sz none 0 (by unfold maxLen;omega) (fun _=>rfl) (fun x hx=>by cases hx)
  · exact hS.env s
theorem ResOk.frz{S:St}{ts:List Nat}{r:PV}(k:Nat) (hr:sealed S.obj (fun _=>false) k (retV S ts)=r) (hp:r.pure=true):ResOk S ts r []:=
  ⟨[],k,rfl,List.nodup_nil,by rw[za8 _ r hp];exact hr,fun i o hi=>by simp at hi⟩
theorem zaL{α:Type}(f:α→PV) (l:List α):(l.map f).take l.length=l.map f:=by rw[List.take_of_length_le];simp
theorem seal_row{H:Nat→Option AO}{keep:Nat→Bool}{k i sz n:Nat}{els:List PV}(hi:H i=some ⟨sz,els⟩) (hk:keep i=false) (hn:n=els.length) (hp:zaw els=true):sealed H keep (k+1) (.ob i sz 0 n)=.sl sz els:=by
  simp only[sealed,hk,hi,hn]
  simp only[Bool.false_eq_true,if_false,Nat.zero_add,Nat.le_refl,and_self,if_true,List.drop_zero,List.take_length,zak _ _ _ hp]
theorem zlZ{l:List PV}(h:(l.all fun q=>q.cells.all PV.one)=true) (n:Nat):((l.take n).all fun q=>q.cells.all PV.one)=true:=by
  rw[List.all_eq_true] at h ⊢
  exact fun x hx=>h x (List.mem_of_mem_take hx)
theorem zl0{l:List PV}(h:(l.all fun q=>q.cells.all PV.one)=true) (n:Nat):((l.drop n).all fun q=>q.cells.all PV.one)=true:=by
  rw[List.all_eq_true] at h ⊢
  exact fun x hx=>h x (List.mem_of_mem_drop hx)
theorem znx{l:List PV}(h:zaw l=true) (n:Nat):zaw (l.take n)=true:=by
  rw[zbr,List.all_eq_true] at h ⊢
  exact fun x hx=>h x (List.mem_of_mem_take hx)
theorem zeP{k:Nat}(h:0<k):((k:Int) - 1).toNat=k - 1:=by omega
@[congr] theorem trOk.congr {nx nx':Nat} {D:List (List Nat)} {tr tr':List Tr} (h:nx=nx') (h2:tr=tr'):trOk nx D tr=trOk nx' D tr':=by rw[h,h2]
/- What stands in a slot, looked up from the newest row on. -/
theorem zie{S:St}{d:Nat}{p:PV}:(S.known d p).get d=p:=by simp[St.known,St.get,lk]
theorem zg8{S:St}{d s:Nat}{p:PV}(h:d≠s):(S.known d p).get s=S.get s:=by simp[St.known,St.get,lk,h]
theorem zjD{S:St}{d sz:Nat}:(S.born d sz).get d=.ob S.nx sz 0 0:=by simp[St.born,St.get,lk]
theorem zif{S:St}{d sz s:Nat}(h:d≠s):(S.born d sz).get s=S.get s:=by simp[St.born,St.get,lk,h]
theorem znQ{i:Nat}{x:PV}{t:List (Nat×PV)}{hp:List (Nat×Option AO)}{nx:Nat}{gh:List PV}:St.get ⟨(i,x) :: t,hp,nx,gh⟩ i=x:=by simp[St.get,lk]
theorem zld{i s:Nat}{x:PV}{t:List (Nat×PV)}{hp:List (Nat×Option AO)}{nx:Nat}{gh:List PV}(h:i≠s):St.get ⟨(i,x) :: t,hp,nx,gh⟩ s=St.get ⟨t,hp,nx,gh⟩ s:=by simp[St.get,lk,h]
theorem znP{s:Nat}{hp:List (Nat×Option AO)}{nx:Nat}{gh:List PV}:St.get ⟨[],hp,nx,gh⟩ s=.junk:=rfl
/- The reckoning does not look at what stands behind an operation before it has come there. -/
@[congr] theorem xGuard.cong {ops:Array Oper} {S S':St} {o:Oper} {run skip:St→Prop} {tq:Unit→Prop} (hq:∀u:Unit,(True,u).1=tq u) (h:S=S'):xGuard ops S o run skip=xGuard ops S' o run skip:=by subst h;rfl
@[congr] theorem xOps.cong {P:Program} {ops:Array Oper} {l:List Oper} {S S':St} {K:St→Prop} {tq:Unit→Prop} (hq:∀u:Unit,(True,u).1=tq u) (h:S=S'):xOps P ops l S K=xOps P ops l S' K:=by subst h;rfl
@[congr] theorem xOpsT.cong {P:Program} {ops:Array Oper} {l:List Oper} {S S':St} {tr tr':List Tr} {K:St→List Tr→Prop} {tq:Unit→Prop} (hq:∀u:Unit,(True,u).1=tq u) (h:S=S') (h2:tr=tr'):xOpsT P ops l S tr K=xOpsT P ops l S' tr' K:=by subst h h2;rfl
@[congr] theorem vop.cong {P:Program} {op:Op} {S S':St} {K:PV→Eff→Prop} {tq:Unit→Prop} (hq:∀u:Unit,(True,u).1=tq u) (h:S=S'):vop P op S K=vop P op S' K:=by subst h;rfl
@[congr] theorem vLoad.cong {P:Program} {t:TypeId} {S S':St} {a a':PV} {K:PV→Eff→Prop} {tq:Unit→Prop} (hq:∀u:Unit,(True,u).1=tq u) (h:S=S') (h2:a=a'):vLoad P t S a K=vLoad P t S' a' K:=by subst h h2;rfl
@[congr] theorem vStore.cong {P:Program} {t:TypeId} {S S':St} {a a' v v':PV} {K:PV→Eff→Prop} {tq:Unit→Prop} (hq:∀u:Unit,(True,u).1=tq u) (h:S=S') (h2:a=a') (h3:v=v'):vStore P t S a v K=vStore P t S' a' v' K:=by subst h h2 h3;rfl
@[congr] theorem vFieldAddr.cong {P:Program} {t:TypeId} {f:Nat} {a a':PV} {K:PV→Eff→Prop} {tq:Unit→Prop} (hq:∀u:Unit,(True,u).1=tq u) (h:a=a'):vFieldAddr P t f a K=vFieldAddr P t f a' K:=by subst h;rfl
@[congr] theorem vField.cong {P:Program} {t:TypeId} {f:Nat} {a a':PV} {K:PV→Eff→Prop} {tq:Unit→Prop} (hq:∀u:Unit,(True,u).1=tq u) (h:a=a'):vField P t f a K=vField P t f a' K:=by subst h;rfl
@[congr] theorem vIndexAddr.cong {P:Program} {t:TypeId} {a a' i i':PV} {K:PV→Eff→Prop} {tq:Unit→Prop} (hq:∀u:Unit,(True,u).1=tq u) (h:a=a') (h2:i=i'):vIndexAddr P t a i K=vIndexAddr P t a' i' K:=by subst h h2;rfl
@[congr] theorem vIndex.cong {P:Program} {t:TypeId} {a a' i i':PV} {K:PV→Eff→Prop} {tq:Unit→Prop} (hq:∀u:Unit,(True,u).1=tq u) (h:a=a') (h2:i=i'):vIndex P t a i K=vIndex P t a' i' K:=by subst h h2;rfl
@[congr] theorem vBin.cong {P:Program} {op:BinOp} {t:TypeId} {a a' b b':PV} {K:PV→Eff→Prop} {tq:Unit→Prop} (hq:∀u:Unit,(True,u).1=tq u) (h:a=a') (h2:b=b'):vBin P op t a b K=vBin P op t a' b' K:=by subst h h2;rfl
@[congr] theorem vSlice.cong {P:Program} {t:TypeId} {S S':St} {a a':PV} {lo hi:Option Operand} {K:PV→Eff→Prop} {tq:Unit→Prop} (hq:∀u:Unit,(True,u).1=tq u) (h:S=S') (h2:a=a'):vSlice P t S a lo hi K=vSlice P t S' a' lo hi K:=by subst h h2;rfl
@[congr] theorem vBase.cong {S S':St} {sz sz':Nat} {a a':PV} {K:List PV→List Nat→Prop} {tq:Unit→Prop} (hq:∀u:Unit,(True,u).1=tq u) (h:S=S') (h1:sz=sz') (h2:a=a'):vBase S sz a K=vBase S' sz' a' K:=by subst h h1 h2;rfl
@[congr] theorem vSrc.cong {S S':St} {sz sz':Nat} {a a':PV} {K:List PV→List Nat→Prop} {tq:Unit→Prop} (hq:∀u:Unit,(True,u).1=tq u) (h:S=S') (h1:sz=sz') (h2:a=a'):vSrc S sz a K=vSrc S' sz' a' K:=by subst h h1 h2;rfl
@[congr] theorem vAppend.cong {P:Program} {t:TypeId} {S S':St} {a a' b b':PV} {K:PV→Eff→Prop} {tq:Unit→Prop} (hq:∀u:Unit,(True,u).1=tq u) (h:S=S') (h2:a=a') (h3:b=b'):vAppend P t S a b K=vAppend P t S' a' b' K:=by subst h h2 h3;rfl
@[congr] theorem vConvert.cong {P:Program} {t t2:TypeId} {S S':St} {a a':PV} {K:PV→Eff→Prop} {tq:Unit→Prop} (hq:∀u:Unit,(True,u).1=tq u) (h:S=S') (h2:a=a'):vConvert P t t2 S a K=vConvert P t t2 S' a' K:=by subst h h2;rfl
@[congr] theorem vMake.cong {P:Program} {t:TypeId} {S S':St} {a a' b b':PV} {K:PV→Eff→Prop} {tq:Unit→Prop} (hq:∀u:Unit,(True,u).1=tq u) (h:S=S') (h2:a=a') (h3:b=b'):vMake P t S a b K=vMake P t S' a' b' K:=by subst h h2 h3;rfl
@[congr] theorem vMinMax.cong {mx:Bool} {a a' b b':PV} {K:PV→Eff→Prop} {tq:Unit→Prop} (hq:∀u:Unit,(True,u).1=tq u) (h:a=a') (h2:b=b'):vMinMax mx a b K=vMinMax mx a' b' K:=by subst h h2;rfl
@[congr] theorem vLen.cong {P:Program} {t:TypeId} {S S':St} {a a':PV} {K:PV→Eff→Prop} {tq:Unit→Prop} (hq:∀u:Unit,(True,u).1=tq u) (h0:S=S') (h:a=a'):vLen P t S a K=vLen P t S' a' K:=by subst h0 h;rfl
@[congr] theorem vopI.cong {P:Program} {op:Op} {S S':St} {K:PV→Eff→Prop} {tq:Unit→Prop} (hq:∀u:Unit,(True,u).1=tq u) (h:S=S'):vopI P op S K=vopI P op S' K:=by subst h;rfl
@[congr] theorem vFnI.cong {P:Program} {S S':St} {g g':PV} {xs:List Operand} {K:PV→Eff→Prop} {tq:Unit→Prop} (hq:∀u:Unit,(True,u).1=tq u) (h:S=S') (h2:g=g'):vFnI P S g xs K=vFnI P S' g' xs K:=by subst h h2;rfl
@[congr] theorem vProc.cong {P:Program} {S S':St} {f:FuncId} {vals vals':List PV} {K:PV→Eff→Prop} {tq:Unit→Prop} (hq:∀u:Unit,(True,u).1=tq u) (h:S=S') (h2:vals=vals'):vProc P S f vals K=vProc P S' f vals' K:=by subst h h2;rfl
@[congr] theorem vFnD.cong {P:Program} {S S':St} {g g':PV} {xs:List Operand} {K:PV→Eff→Prop} {tq:Unit→Prop} (hq:∀u:Unit,(True,u).1=tq u) (h:S=S') (h2:g=g'):vFnD P S g xs K=vFnD P S' g' xs K:=by subst h h2;rfl
@[congr] theorem vProcD.cong {P:Program} {S S':St} {f:FuncId} {vals vals':List PV} {K:PV→Eff→Prop} {tq:Unit→Prop} (hq:∀u:Unit,(True,u).1=tq u) (h:S=S') (h2:vals=vals'):vProcD P S f vals K=vProcD P S' f vals' K:=by subst h h2;rfl
@[congr] theorem vFn.cong {P:Program} {S S':St} {g g':PV} {xs:List Operand} {K:PV→Eff→Prop} {tq:Unit→Prop} (hq:∀u:Unit,(True,u).1=tq u) (h:S=S') (h2:g=g'):vFn P S g xs K=vFn P S' g' xs K:=by subst h h2;rfl
@[congr] theorem vBinO.cong {P:Program} {op:BinOp} {t:TypeId} {S S':St} {x y:Operand} {K:PV→Eff→Prop} {tq:Unit→Prop} (hq:∀u:Unit,(True,u).1=tq u) (h:S=S'):vBinO P op t S x y K=vBinO P op t S' x y K:=by subst h;rfl
@[congr] theorem vCallO.cong {P:Program} {S S':St} {c:Callee} {xs:List Operand} {ts:List TypeId} {K:PV→Eff→Prop} {tq:Unit→Prop} (hq:∀u:Unit,(True,u).1=tq u) (h:S=S'):vCallO P S c xs ts K=vCallO P S' c xs ts K:=by subst h;rfl
@[congr] theorem vMakeF.cong {S S':St} {fn:Fn} {first cap:List Operand} {K:PV→Eff→Prop} {tq:Unit→Prop} (hq:∀u:Unit,(True,u).1=tq u) (h:S=S'):vMakeF S fn first cap K=vMakeF S' fn first cap K:=by subst h;rfl
@[congr] theorem vUn.cong {op:UnOp} {a a':PV} {K:PV→Eff→Prop} {tq:Unit→Prop} (hq:∀u:Unit,(True,u).1=tq u) (h:a=a'):vUn op a K=vUn op a' K:=by subst h;rfl
theorem li_ext{a b:List Int}(h:a.length=b.length) (h2:∀i,i<b.length→li a i=li b i):a=b:=
  List.ext_getElem h fun i h1 h3=>by
    have:=h2 i h3
    simpa[li,List.getD_eq_getElem?_getD,h1,h3] using this
theorem ls_ext{a b:List ByteArray}(h:a.length=b.length) (h2:∀i,i<b.length→ls a i=ls b i):a=b:=
  List.ext_getElem h fun i h1 h3=>by
    have:=h2 i h3
    simpa[ls,List.getD_eq_getElem?_getD,h1,h3] using this
theorem zgK{l:List Int}{k:Nat}(h:k<l.length):li l k∈l:=by
  have:li l k=l[k]:=by simp[li,List.getD_eq_getElem?_getD,h]
  rw[this];exact List.getElem_mem h
theorem zfX{l:List ByteArray}{k:Nat}(h:k<l.length):ls l k∈l:=by
  have:ls l k=l[k]:=by simp[ls,List.getD_eq_getElem?_getD,h]
  rw[this];exact List.getElem_mem h
theorem aB{p q:Bool}(h:p=q):PV.atom (.bool p)=.atom (.bool q):=by rw[h]
theorem aI{k:IntKind}{p q:Int}(h:p=q):PV.atom (.int k p)=.atom (.int k q):=by rw[h]
end Go.Proofs.Ytehoglapajkabaa

/-
  The types of the translation,as plain facts.
-/
import Derived.Test.YtehoglapajkabaaGreatJV16
import Derived.Test.YtehoglapajkabaaGreatProg
import Derived.KernelRfl
set_option linter.all false
namespace Go.Proofs.YtehoglapajkabaaGreat
open Go Go.RowKit
set_option maxRecDepth 100000
theorem tAgg_1:tAgg Tryz.prog 1=some false:=by kernel_rfl
theorem tSize_1:zaZ Tryz.prog 1=some 1:=by kernel_rfl
theorem tBytes_1:za5 Tryz.prog 1=some 8:=by kernel_rfl
theorem tElem_1:zaX Tryz.prog 1=none:=by kernel_rfl
theorem tStr_1:tStr Tryz.prog 1=false:=by kernel_rfl
theorem tInt_1:tInt Tryz.prog 1=none:=by kernel_rfl
theorem tzo_1:tzo Tryz.prog 1=some (.atom (.nilFunc)):=by kernel_rfl
theorem tAgg_2:tAgg Tryz.prog 2=some false:=by kernel_rfl
theorem tSize_2:zaZ Tryz.prog 2=some 1:=by kernel_rfl
theorem tBytes_2:za5 Tryz.prog 2=some 8:=by kernel_rfl
theorem tElem_2:zaX Tryz.prog 2=none:=by kernel_rfl
theorem tStr_2:tStr Tryz.prog 2=false:=by kernel_rfl
theorem tInt_2:tInt Tryz.prog 2=some .i64:=by kernel_rfl
theorem tUnd_2:((Tryz.prog.underlying 2).isSome=true):=by kernel_rfl
theorem tzo_2:tzo Tryz.prog 2=some (.atom (.int .i64 0)):=by kernel_rfl
theorem tAgg_3:tAgg Tryz.prog 3=some false:=by kernel_rfl
theorem tSize_3:zaZ Tryz.prog 3=some 1:=by kernel_rfl
theorem tBytes_3:za5 Tryz.prog 3=some 8:=by kernel_rfl
theorem tElem_3:zaX Tryz.prog 3=none:=by kernel_rfl
theorem tStr_3:tStr Tryz.prog 3=false:=by kernel_rfl
theorem tInt_3:tInt Tryz.prog 3=some .i64:=by kernel_rfl
theorem tUnd_3:((Tryz.prog.underlying 3).isSome=true):=by kernel_rfl
theorem tzo_3:tzo Tryz.prog 3=some (.atom (.int .i64 0)):=by kernel_rfl
theorem tAgg_4:tAgg Tryz.prog 4=some false:=by kernel_rfl
theorem tSize_4:zaZ Tryz.prog 4=some 1:=by kernel_rfl
theorem tBytes_4:za5 Tryz.prog 4=some 1:=by kernel_rfl
theorem tElem_4:zaX Tryz.prog 4=none:=by kernel_rfl
theorem tStr_4:tStr Tryz.prog 4=false:=by kernel_rfl
theorem tInt_4:tInt Tryz.prog 4=none:=by kernel_rfl
theorem tUnd_4:((Tryz.prog.underlying 4).isSome=true):=by kernel_rfl
theorem tBool_4:Tryz.prog.underlying 4=some .bool:=by kernel_rfl
theorem tzo_4:tzo Tryz.prog 4=some (.atom (.bool false)):=by kernel_rfl
theorem tAgg_5:tAgg Tryz.prog 5=some false:=by kernel_rfl
theorem tSize_5:zaZ Tryz.prog 5=some 1:=by kernel_rfl
theorem tBytes_5:za5 Tryz.prog 5=some 1:=by kernel_rfl
theorem tElem_5:zaX Tryz.prog 5=none:=by kernel_rfl
theorem tStr_5:tStr Tryz.prog 5=false:=by kernel_rfl
theorem tInt_5:tInt Tryz.prog 5=some .u8:=by kernel_rfl
theorem tUnd_5:((Tryz.prog.underlying 5).isSome=true):=by kernel_rfl
theorem tzo_5:tzo Tryz.prog 5=some (.atom (.int .u8 0)):=by kernel_rfl
theorem tAgg_9:tAgg Tryz.prog 9=some false:=by kernel_rfl
theorem tSize_9:zaZ Tryz.prog 9=some 1:=by kernel_rfl
theorem tBytes_9:za5 Tryz.prog 9=some 16:=by kernel_rfl
theorem tElem_9:zaX Tryz.prog 9=none:=by kernel_rfl
theorem tStr_9:tStr Tryz.prog 9=true:=by kernel_rfl
theorem tInt_9:tInt Tryz.prog 9=none:=by kernel_rfl
theorem tUnd_9:((Tryz.prog.underlying 9).isSome=true):=by kernel_rfl
theorem tzo_9:tzo Tryz.prog 9=some (.atom (.string ⟨#[]⟩)):=by kernel_rfl
theorem tAgg_21:tAgg Tryz.prog 21=some false:=by kernel_rfl
theorem tSize_21:zaZ Tryz.prog 21=some 1:=by kernel_rfl
theorem zqp:za5 Tryz.prog 21=some 4:=by kernel_rfl
theorem tElem_21:zaX Tryz.prog 21=none:=by kernel_rfl
theorem tStr_21:tStr Tryz.prog 21=false:=by kernel_rfl
theorem tInt_21:tInt Tryz.prog 21=some .i32:=by kernel_rfl
theorem tUnd_21:((Tryz.prog.underlying 21).isSome=true):=by kernel_rfl
theorem tzo_21:tzo Tryz.prog 21=some (.atom (.int .i32 0)):=by kernel_rfl
theorem tAgg_22:tAgg Tryz.prog 22=some false:=by kernel_rfl
theorem tSize_22:zaZ Tryz.prog 22=some 1:=by kernel_rfl
theorem zqo:za5 Tryz.prog 22=some 24:=by kernel_rfl
theorem tElem_22:zaX Tryz.prog 22=some 3:=by kernel_rfl
theorem tStr_22:tStr Tryz.prog 22=false:=by kernel_rfl
theorem tInt_22:tInt Tryz.prog 22=none:=by kernel_rfl
theorem tzo_22:tzo Tryz.prog 22=some (.atom (.slice none 0 0)):=by kernel_rfl
theorem tAgg_23:tAgg Tryz.prog 23=some false:=by kernel_rfl
theorem tSize_23:zaZ Tryz.prog 23=some 1:=by kernel_rfl
theorem zqn:za5 Tryz.prog 23=some 24:=by kernel_rfl
theorem tElem_23:zaX Tryz.prog 23=some 73:=by kernel_rfl
theorem tStr_23:tStr Tryz.prog 23=false:=by kernel_rfl
theorem tInt_23:tInt Tryz.prog 23=none:=by kernel_rfl
theorem tzo_23:tzo Tryz.prog 23=some (.atom (.slice none 0 0)):=by kernel_rfl
theorem tAgg_24:tAgg Tryz.prog 24=some false:=by kernel_rfl
theorem tSize_24:zaZ Tryz.prog 24=some 1:=by kernel_rfl
theorem zqm:za5 Tryz.prog 24=some 24:=by kernel_rfl
theorem tElem_24:zaX Tryz.prog 24=some 90:=by kernel_rfl
theorem tStr_24:tStr Tryz.prog 24=false:=by kernel_rfl
theorem tInt_24:tInt Tryz.prog 24=none:=by kernel_rfl
theorem tzo_24:tzo Tryz.prog 24=some (.atom (.slice none 0 0)):=by kernel_rfl
theorem tAgg_25:tAgg Tryz.prog 25=some false:=by kernel_rfl
theorem tSize_25:zaZ Tryz.prog 25=some 1:=by kernel_rfl
theorem zql:za5 Tryz.prog 25=some 24:=by kernel_rfl
theorem tElem_25:zaX Tryz.prog 25=some 91:=by kernel_rfl
theorem tStr_25:tStr Tryz.prog 25=false:=by kernel_rfl
theorem tInt_25:tInt Tryz.prog 25=none:=by kernel_rfl
theorem tzo_25:tzo Tryz.prog 25=some (.atom (.slice none 0 0)):=by kernel_rfl
theorem tAgg_27:tAgg Tryz.prog 27=some true:=by kernel_rfl
theorem tSize_27:zaZ Tryz.prog 27=some 3:=by kernel_rfl
theorem zqk:za5 Tryz.prog 27=some 72:=by kernel_rfl
theorem tElem_27:zaX Tryz.prog 27=none:=by kernel_rfl
theorem tStr_27:tStr Tryz.prog 27=false:=by kernel_rfl
theorem tInt_27:tInt Tryz.prog 27=none:=by kernel_rfl
theorem zpH:tFld Tryz.prog 27 0=some (0,23):=by kernel_rfl
theorem zkY:zbg Tryz.prog 27 0=some (0,1):=by kernel_rfl
theorem zpG:tFld Tryz.prog 27 1=some (1,24):=by kernel_rfl
theorem zkX:zbg Tryz.prog 27 1=some (1,1):=by kernel_rfl
theorem zpF:tFld Tryz.prog 27 2=some (2,25):=by kernel_rfl
theorem zkW:zbg Tryz.prog 27 2=some (2,1):=by kernel_rfl
theorem zpd:zcH Tryz.prog 27=true:=by kernel_rfl
theorem tzo_27:tzo Tryz.prog 27=some (.agg [.atom (.slice none 0 0),.atom (.slice none 0 0),.atom (.slice none 0 0)]):=by kernel_rfl
theorem tAgg_28:tAgg Tryz.prog 28=some false:=by kernel_rfl
theorem tSize_28:zaZ Tryz.prog 28=some 1:=by kernel_rfl
theorem zqj:za5 Tryz.prog 28=some 24:=by kernel_rfl
theorem tElem_28:zaX Tryz.prog 28=some 76:=by kernel_rfl
theorem tStr_28:tStr Tryz.prog 28=false:=by kernel_rfl
theorem tInt_28:tInt Tryz.prog 28=none:=by kernel_rfl
theorem tzo_28:tzo Tryz.prog 28=some (.atom (.slice none 0 0)):=by kernel_rfl
theorem tAgg_29:tAgg Tryz.prog 29=some false:=by kernel_rfl
theorem tSize_29:zaZ Tryz.prog 29=some 1:=by kernel_rfl
theorem zqi:za5 Tryz.prog 29=some 24:=by kernel_rfl
theorem tElem_29:zaX Tryz.prog 29=some 87:=by kernel_rfl
theorem tStr_29:tStr Tryz.prog 29=false:=by kernel_rfl
theorem tInt_29:tInt Tryz.prog 29=none:=by kernel_rfl
theorem tzo_29:tzo Tryz.prog 29=some (.atom (.slice none 0 0)):=by kernel_rfl
theorem tAgg_30:tAgg Tryz.prog 30=some false:=by kernel_rfl
theorem tSize_30:zaZ Tryz.prog 30=some 1:=by kernel_rfl
theorem zqh:za5 Tryz.prog 30=some 24:=by kernel_rfl
theorem tElem_30:zaX Tryz.prog 30=some 89:=by kernel_rfl
theorem tStr_30:tStr Tryz.prog 30=false:=by kernel_rfl
theorem tInt_30:tInt Tryz.prog 30=none:=by kernel_rfl
theorem tzo_30:tzo Tryz.prog 30=some (.atom (.slice none 0 0)):=by kernel_rfl
theorem tAgg_32:tAgg Tryz.prog 32=some true:=by kernel_rfl
theorem tSize_32:zaZ Tryz.prog 32=some 3:=by kernel_rfl
theorem zqg:za5 Tryz.prog 32=some 72:=by kernel_rfl
theorem tElem_32:zaX Tryz.prog 32=none:=by kernel_rfl
theorem tStr_32:tStr Tryz.prog 32=false:=by kernel_rfl
theorem tInt_32:tInt Tryz.prog 32=none:=by kernel_rfl
theorem zpE:tFld Tryz.prog 32 0=some (0,28):=by kernel_rfl
theorem zkV:zbg Tryz.prog 32 0=some (0,1):=by kernel_rfl
theorem zpD:tFld Tryz.prog 32 1=some (1,29):=by kernel_rfl
theorem zkU:zbg Tryz.prog 32 1=some (1,1):=by kernel_rfl
theorem zpC:tFld Tryz.prog 32 2=some (2,30):=by kernel_rfl
theorem zkT:zbg Tryz.prog 32 2=some (2,1):=by kernel_rfl
theorem zpc:zcH Tryz.prog 32=true:=by kernel_rfl
theorem tzo_32:tzo Tryz.prog 32=some (.agg [.atom (.slice none 0 0),.atom (.slice none 0 0),.atom (.slice none 0 0)]):=by kernel_rfl
theorem tAgg_35:tAgg Tryz.prog 35=some false:=by kernel_rfl
theorem tSize_35:zaZ Tryz.prog 35=some 1:=by kernel_rfl
theorem zqf:za5 Tryz.prog 35=some 24:=by kernel_rfl
theorem tElem_35:zaX Tryz.prog 35=some 32:=by kernel_rfl
theorem tStr_35:tStr Tryz.prog 35=false:=by kernel_rfl
theorem tInt_35:tInt Tryz.prog 35=none:=by kernel_rfl
theorem tzo_35:tzo Tryz.prog 35=some (.atom (.slice none 0 0)):=by kernel_rfl
theorem tAgg_37:tAgg Tryz.prog 37=some false:=by kernel_rfl
theorem tSize_37:zaZ Tryz.prog 37=some 1:=by kernel_rfl
theorem zqe:za5 Tryz.prog 37=some 24:=by kernel_rfl
theorem tElem_37:zaX Tryz.prog 37=some 9:=by kernel_rfl
theorem tStr_37:tStr Tryz.prog 37=false:=by kernel_rfl
theorem tInt_37:tInt Tryz.prog 37=none:=by kernel_rfl
theorem tzo_37:tzo Tryz.prog 37=some (.atom (.slice none 0 0)):=by kernel_rfl
theorem tAgg_40:tAgg Tryz.prog 40=some false:=by kernel_rfl
theorem tSize_40:zaZ Tryz.prog 40=some 1:=by kernel_rfl
theorem zqd:za5 Tryz.prog 40=some 8:=by kernel_rfl
theorem tElem_40:zaX Tryz.prog 40=none:=by kernel_rfl
theorem tStr_40:tStr Tryz.prog 40=false:=by kernel_rfl
theorem tInt_40:tInt Tryz.prog 40=some .i64:=by kernel_rfl
theorem tUnd_40:((Tryz.prog.underlying 40).isSome=true):=by kernel_rfl
theorem tzo_40:tzo Tryz.prog 40=some (.atom (.int .i64 0)):=by kernel_rfl
theorem tAgg_52:tAgg Tryz.prog 52=some false:=by kernel_rfl
theorem tSize_52:zaZ Tryz.prog 52=some 1:=by kernel_rfl
theorem zqc:za5 Tryz.prog 52=some 24:=by kernel_rfl
theorem tElem_52:zaX Tryz.prog 52=some 109:=by kernel_rfl
theorem tStr_52:tStr Tryz.prog 52=false:=by kernel_rfl
theorem tInt_52:tInt Tryz.prog 52=none:=by kernel_rfl
theorem tzo_52:tzo Tryz.prog 52=some (.atom (.slice none 0 0)):=by kernel_rfl
theorem tAgg_54:tAgg Tryz.prog 54=some true:=by kernel_rfl
theorem tSize_54:zaZ Tryz.prog 54=some 4:=by kernel_rfl
theorem zqb:za5 Tryz.prog 54=some 64:=by kernel_rfl
theorem tElem_54:zaX Tryz.prog 54=none:=by kernel_rfl
theorem tStr_54:tStr Tryz.prog 54=false:=by kernel_rfl
theorem tInt_54:tInt Tryz.prog 54=none:=by kernel_rfl
theorem zpB:tFld Tryz.prog 54 0=some (0,3):=by kernel_rfl
theorem zkS:zbg Tryz.prog 54 0=some (0,1):=by kernel_rfl
theorem zpA:tFld Tryz.prog 54 1=some (1,3):=by kernel_rfl
theorem zkR:zbg Tryz.prog 54 1=some (1,1):=by kernel_rfl
theorem zpz:tFld Tryz.prog 54 2=some (2,22):=by kernel_rfl
theorem zkQ:zbg Tryz.prog 54 2=some (2,1):=by kernel_rfl
theorem zpy:tFld Tryz.prog 54 3=some (3,52):=by kernel_rfl
theorem zkP:zbg Tryz.prog 54 3=some (3,1):=by kernel_rfl
theorem zpb:zcH Tryz.prog 54=true:=by kernel_rfl
theorem tzo_54:tzo Tryz.prog 54=some (.agg [.atom (.int .i64 0),.atom (.int .i64 0),.atom (.slice none 0 0),.atom (.slice none 0 0)]):=by kernel_rfl
theorem tAgg_73:tAgg Tryz.prog 73=some true:=by kernel_rfl
theorem tSize_73:zaZ Tryz.prog 73=some 3:=by kernel_rfl
theorem zqa:za5 Tryz.prog 73=some 48:=by kernel_rfl
theorem tElem_73:zaX Tryz.prog 73=none:=by kernel_rfl
theorem tStr_73:tStr Tryz.prog 73=false:=by kernel_rfl
theorem tInt_73:tInt Tryz.prog 73=none:=by kernel_rfl
theorem zpx:tFld Tryz.prog 73 0=some (0,9):=by kernel_rfl
theorem zkO:zbg Tryz.prog 73 0=some (0,1):=by kernel_rfl
theorem zpw:tFld Tryz.prog 73 1=some (1,9):=by kernel_rfl
theorem zkN:zbg Tryz.prog 73 1=some (1,1):=by kernel_rfl
theorem zpv:tFld Tryz.prog 73 2=some (2,9):=by kernel_rfl
theorem zkM:zbg Tryz.prog 73 2=some (2,1):=by kernel_rfl
theorem zpa:zcH Tryz.prog 73=true:=by kernel_rfl
theorem tArr_73:tArr Tryz.prog 73=none:=by kernel_rfl
theorem tFlat_73:zhb Tryz.prog 73=some [0,0,0]:=by kernel_rfl
theorem tzo_73:tzo Tryz.prog 73=some (.agg [.atom (.string ⟨#[]⟩),.atom (.string ⟨#[]⟩),.atom (.string ⟨#[]⟩)]):=by kernel_rfl
theorem tAgg_76:tAgg Tryz.prog 76=some true:=by kernel_rfl
theorem tSize_76:zaZ Tryz.prog 76=some 3:=by kernel_rfl
theorem zp9:za5 Tryz.prog 76=some 48:=by kernel_rfl
theorem tElem_76:zaX Tryz.prog 76=none:=by kernel_rfl
theorem tStr_76:tStr Tryz.prog 76=false:=by kernel_rfl
theorem tInt_76:tInt Tryz.prog 76=none:=by kernel_rfl
theorem zpu:tFld Tryz.prog 76 0=some (0,9):=by kernel_rfl
theorem zkL:zbg Tryz.prog 76 0=some (0,1):=by kernel_rfl
theorem zpt:tFld Tryz.prog 76 1=some (1,9):=by kernel_rfl
theorem zkK:zbg Tryz.prog 76 1=some (1,1):=by kernel_rfl
theorem zps:tFld Tryz.prog 76 2=some (2,9):=by kernel_rfl
theorem zkJ:zbg Tryz.prog 76 2=some (2,1):=by kernel_rfl
theorem zo9:zcH Tryz.prog 76=true:=by kernel_rfl
theorem tArr_76:tArr Tryz.prog 76=none:=by kernel_rfl
theorem tFlat_76:zhb Tryz.prog 76=some [0,0,0]:=by kernel_rfl
theorem tzo_76:tzo Tryz.prog 76=some (.agg [.atom (.string ⟨#[]⟩),.atom (.string ⟨#[]⟩),.atom (.string ⟨#[]⟩)]):=by kernel_rfl
theorem tAgg_87:tAgg Tryz.prog 87=some true:=by kernel_rfl
theorem tSize_87:zaZ Tryz.prog 87=some 4:=by kernel_rfl
theorem zp8:za5 Tryz.prog 87=some 56:=by kernel_rfl
theorem tElem_87:zaX Tryz.prog 87=none:=by kernel_rfl
theorem tStr_87:tStr Tryz.prog 87=false:=by kernel_rfl
theorem tInt_87:tInt Tryz.prog 87=none:=by kernel_rfl
theorem zpr:tFld Tryz.prog 87 0=some (0,9):=by kernel_rfl
theorem zkI:zbg Tryz.prog 87 0=some (0,1):=by kernel_rfl
theorem zpq:tFld Tryz.prog 87 1=some (1,9):=by kernel_rfl
theorem zkH:zbg Tryz.prog 87 1=some (1,1):=by kernel_rfl
theorem zpp:tFld Tryz.prog 87 2=some (2,9):=by kernel_rfl
theorem zkG:zbg Tryz.prog 87 2=some (2,1):=by kernel_rfl
theorem zpo:tFld Tryz.prog 87 3=some (3,3):=by kernel_rfl
theorem zkF:zbg Tryz.prog 87 3=some (3,1):=by kernel_rfl
theorem zo8:zcH Tryz.prog 87=true:=by kernel_rfl
theorem tArr_87:tArr Tryz.prog 87=none:=by kernel_rfl
theorem tFlat_87:zhb Tryz.prog 87=some [0,0,0,2]:=by kernel_rfl
theorem tzo_87:tzo Tryz.prog 87=some (.agg [.atom (.string ⟨#[]⟩),.atom (.string ⟨#[]⟩),.atom (.string ⟨#[]⟩),.atom (.int .i64 0)]):=by kernel_rfl
theorem tAgg_89:tAgg Tryz.prog 89=some true:=by kernel_rfl
theorem tSize_89:zaZ Tryz.prog 89=some 3:=by kernel_rfl
theorem zp7:za5 Tryz.prog 89=some 48:=by kernel_rfl
theorem tElem_89:zaX Tryz.prog 89=none:=by kernel_rfl
theorem tStr_89:tStr Tryz.prog 89=false:=by kernel_rfl
theorem tInt_89:tInt Tryz.prog 89=none:=by kernel_rfl
theorem zpn:tFld Tryz.prog 89 0=some (0,9):=by kernel_rfl
theorem zkE:zbg Tryz.prog 89 0=some (0,1):=by kernel_rfl
theorem zpm:tFld Tryz.prog 89 1=some (1,9):=by kernel_rfl
theorem zkD:zbg Tryz.prog 89 1=some (1,1):=by kernel_rfl
theorem zpl:tFld Tryz.prog 89 2=some (2,9):=by kernel_rfl
theorem zkC:zbg Tryz.prog 89 2=some (2,1):=by kernel_rfl
theorem zo7:zcH Tryz.prog 89=true:=by kernel_rfl
theorem tArr_89:tArr Tryz.prog 89=none:=by kernel_rfl
theorem tFlat_89:zhb Tryz.prog 89=some [0,0,0]:=by kernel_rfl
theorem tzo_89:tzo Tryz.prog 89=some (.agg [.atom (.string ⟨#[]⟩),.atom (.string ⟨#[]⟩),.atom (.string ⟨#[]⟩)]):=by kernel_rfl
theorem tAgg_90:tAgg Tryz.prog 90=some true:=by kernel_rfl
theorem tSize_90:zaZ Tryz.prog 90=some 4:=by kernel_rfl
theorem zp6:za5 Tryz.prog 90=some 56:=by kernel_rfl
theorem tElem_90:zaX Tryz.prog 90=none:=by kernel_rfl
theorem tStr_90:tStr Tryz.prog 90=false:=by kernel_rfl
theorem tInt_90:tInt Tryz.prog 90=none:=by kernel_rfl
theorem zpk:tFld Tryz.prog 90 0=some (0,9):=by kernel_rfl
theorem zkB:zbg Tryz.prog 90 0=some (0,1):=by kernel_rfl
theorem zpj:tFld Tryz.prog 90 1=some (1,9):=by kernel_rfl
theorem zkA:zbg Tryz.prog 90 1=some (1,1):=by kernel_rfl
theorem zpi:tFld Tryz.prog 90 2=some (2,9):=by kernel_rfl
theorem zkz:zbg Tryz.prog 90 2=some (2,1):=by kernel_rfl
theorem zph:tFld Tryz.prog 90 3=some (3,3):=by kernel_rfl
theorem zky:zbg Tryz.prog 90 3=some (3,1):=by kernel_rfl
theorem zo6:zcH Tryz.prog 90=true:=by kernel_rfl
theorem tArr_90:tArr Tryz.prog 90=none:=by kernel_rfl
theorem tFlat_90:zhb Tryz.prog 90=some [0,0,0,2]:=by kernel_rfl
theorem tzo_90:tzo Tryz.prog 90=some (.agg [.atom (.string ⟨#[]⟩),.atom (.string ⟨#[]⟩),.atom (.string ⟨#[]⟩),.atom (.int .i64 0)]):=by kernel_rfl
theorem tAgg_91:tAgg Tryz.prog 91=some true:=by kernel_rfl
theorem tSize_91:zaZ Tryz.prog 91=some 3:=by kernel_rfl
theorem zp5:za5 Tryz.prog 91=some 48:=by kernel_rfl
theorem tElem_91:zaX Tryz.prog 91=none:=by kernel_rfl
theorem tStr_91:tStr Tryz.prog 91=false:=by kernel_rfl
theorem tInt_91:tInt Tryz.prog 91=none:=by kernel_rfl
theorem zpg:tFld Tryz.prog 91 0=some (0,9):=by kernel_rfl
theorem zkx:zbg Tryz.prog 91 0=some (0,1):=by kernel_rfl
theorem zpf:tFld Tryz.prog 91 1=some (1,9):=by kernel_rfl
theorem zkw:zbg Tryz.prog 91 1=some (1,1):=by kernel_rfl
theorem zpe:tFld Tryz.prog 91 2=some (2,9):=by kernel_rfl
theorem zkv:zbg Tryz.prog 91 2=some (2,1):=by kernel_rfl
theorem zo5:zcH Tryz.prog 91=true:=by kernel_rfl
theorem tArr_91:tArr Tryz.prog 91=none:=by kernel_rfl
theorem tFlat_91:zhb Tryz.prog 91=some [0,0,0]:=by kernel_rfl
theorem tzo_91:tzo Tryz.prog 91=some (.agg [.atom (.string ⟨#[]⟩),.atom (.string ⟨#[]⟩),.atom (.string ⟨#[]⟩)]):=by kernel_rfl
theorem tAgg_93:tAgg Tryz.prog 93=some false:=by kernel_rfl
theorem tSize_93:zaZ Tryz.prog 93=some 1:=by kernel_rfl
theorem zp4:za5 Tryz.prog 93=some 8:=by kernel_rfl
theorem tElem_93:zaX Tryz.prog 93=none:=by kernel_rfl
theorem tStr_93:tStr Tryz.prog 93=false:=by kernel_rfl
theorem tInt_93:tInt Tryz.prog 93=none:=by kernel_rfl
theorem tzo_93:tzo Tryz.prog 93=some (.atom (.nilFunc)):=by kernel_rfl
theorem tAgg_98:tAgg Tryz.prog 98=some false:=by kernel_rfl
theorem tSize_98:zaZ Tryz.prog 98=some 1:=by kernel_rfl
theorem zp3:za5 Tryz.prog 98=some 8:=by kernel_rfl
theorem tElem_98:zaX Tryz.prog 98=none:=by kernel_rfl
theorem tStr_98:tStr Tryz.prog 98=false:=by kernel_rfl
theorem tInt_98:tInt Tryz.prog 98=none:=by kernel_rfl
theorem tzo_98:tzo Tryz.prog 98=some (.atom (.pointer none)):=by kernel_rfl
theorem tAgg_100:tAgg Tryz.prog 100=some true:=by kernel_rfl
theorem zo4:zaZ Tryz.prog 100=some 4:=by kernel_rfl
theorem znq:za5 Tryz.prog 100=some 64:=by kernel_rfl
theorem zp2:zaX Tryz.prog 100=none:=by kernel_rfl
theorem tStr_100:tStr Tryz.prog 100=false:=by kernel_rfl
theorem tInt_100:tInt Tryz.prog 100=none:=by kernel_rfl
theorem zm6:tFld Tryz.prog 100 0=some (0,54):=by kernel_rfl
theorem ziR:zbg Tryz.prog 100 0=some (0,4):=by kernel_rfl
theorem zmX:zcH Tryz.prog 100=true:=by kernel_rfl
theorem tzo_100:tzo Tryz.prog 100=some (.agg [.atom (.int .i64 0),.atom (.int .i64 0),.atom (.slice none 0 0),.atom (.slice none 0 0)]):=by kernel_rfl
theorem tAgg_109:tAgg Tryz.prog 109=some true:=by kernel_rfl
theorem zo3:zaZ Tryz.prog 109=some 4:=by kernel_rfl
theorem znp:za5 Tryz.prog 109=some 48:=by kernel_rfl
theorem zp1:zaX Tryz.prog 109=none:=by kernel_rfl
theorem tStr_109:tStr Tryz.prog 109=false:=by kernel_rfl
theorem tInt_109:tInt Tryz.prog 109=none:=by kernel_rfl
theorem zm5:tFld Tryz.prog 109 0=some (0,3):=by kernel_rfl
theorem ziQ:zbg Tryz.prog 109 0=some (0,1):=by kernel_rfl
theorem zm4:tFld Tryz.prog 109 1=some (1,3):=by kernel_rfl
theorem ziP:zbg Tryz.prog 109 1=some (1,1):=by kernel_rfl
theorem zm3:tFld Tryz.prog 109 2=some (2,9):=by kernel_rfl
theorem ziO:zbg Tryz.prog 109 2=some (2,1):=by kernel_rfl
theorem zm2:tFld Tryz.prog 109 3=some (3,9):=by kernel_rfl
theorem ziN:zbg Tryz.prog 109 3=some (3,1):=by kernel_rfl
theorem zmW:zcH Tryz.prog 109=true:=by kernel_rfl
theorem tArr_109:tArr Tryz.prog 109=none:=by kernel_rfl
theorem zpI:zhb Tryz.prog 109=some [2,2,0,0]:=by kernel_rfl
theorem tzo_109:tzo Tryz.prog 109=some (.agg [.atom (.int .i64 0),.atom (.int .i64 0),.atom (.string ⟨#[]⟩),.atom (.string ⟨#[]⟩)]):=by kernel_rfl
theorem tAgg_110:tAgg Tryz.prog 110=some false:=by kernel_rfl
theorem zo2:zaZ Tryz.prog 110=some 1:=by kernel_rfl
theorem zno:za5 Tryz.prog 110=some 24:=by kernel_rfl
theorem zp0:zaX Tryz.prog 110=some 22:=by kernel_rfl
theorem tStr_110:tStr Tryz.prog 110=false:=by kernel_rfl
theorem tInt_110:tInt Tryz.prog 110=none:=by kernel_rfl
theorem tzo_110:tzo Tryz.prog 110=some (.atom (.slice none 0 0)):=by kernel_rfl
theorem tAgg_112:tAgg Tryz.prog 112=some false:=by kernel_rfl
theorem zo1:zaZ Tryz.prog 112=some 1:=by kernel_rfl
theorem znn:za5 Tryz.prog 112=some 8:=by kernel_rfl
theorem zpZ:zaX Tryz.prog 112=none:=by kernel_rfl
theorem tStr_112:tStr Tryz.prog 112=false:=by kernel_rfl
theorem tInt_112:tInt Tryz.prog 112=none:=by kernel_rfl
theorem tMap_112:tMap Tryz.prog 112=some (115,114):=by kernel_rfl
theorem tzo_112:tzo Tryz.prog 112=some (.atom (.map none)):=by kernel_rfl
theorem tAgg_113:tAgg Tryz.prog 113=some false:=by kernel_rfl
theorem zo0:zaZ Tryz.prog 113=some 1:=by kernel_rfl
theorem znm:za5 Tryz.prog 113=some 8:=by kernel_rfl
theorem zpY:zaX Tryz.prog 113=none:=by kernel_rfl
theorem tStr_113:tStr Tryz.prog 113=false:=by kernel_rfl
theorem tInt_113:tInt Tryz.prog 113=none:=by kernel_rfl
theorem tzo_113:tzo Tryz.prog 113=some (.atom (.nilFunc)):=by kernel_rfl
theorem tAgg_114:tAgg Tryz.prog 114=some false:=by kernel_rfl
theorem zoZ:zaZ Tryz.prog 114=some 1:=by kernel_rfl
theorem znl:za5 Tryz.prog 114=some 8:=by kernel_rfl
theorem zpX:zaX Tryz.prog 114=none:=by kernel_rfl
theorem tStr_114:tStr Tryz.prog 114=false:=by kernel_rfl
theorem tInt_114:tInt Tryz.prog 114=none:=by kernel_rfl
theorem tzo_114:tzo Tryz.prog 114=some (.atom (.pointer none)):=by kernel_rfl
theorem tAgg_115:tAgg Tryz.prog 115=some true:=by kernel_rfl
theorem zoY:zaZ Tryz.prog 115=some 2:=by kernel_rfl
theorem znk:za5 Tryz.prog 115=some 16:=by kernel_rfl
theorem zpW:zaX Tryz.prog 115=none:=by kernel_rfl
theorem tStr_115:tStr Tryz.prog 115=false:=by kernel_rfl
theorem tInt_115:tInt Tryz.prog 115=none:=by kernel_rfl
theorem tArr_115:tArr Tryz.prog 115=some (2,3):=by kernel_rfl
theorem zmS (i:Nat):zbg Tryz.prog 115 i=some (i * 1,1):=by rfl
theorem zmV:zcH Tryz.prog 115=true:=by kernel_rfl
theorem tEqG_115:Tryz.prog.eqGuardType Tryz.prog.depth 115=false:=by kernel_rfl
theorem tzo_115:tzo Tryz.prog 115=some (.agg [.atom (.int .i64 0),.atom (.int .i64 0)]):=by kernel_rfl
theorem tAgg_117:tAgg Tryz.prog 117=some false:=by kernel_rfl
theorem zoX:zaZ Tryz.prog 117=some 1:=by kernel_rfl
theorem znj:za5 Tryz.prog 117=some 8:=by kernel_rfl
theorem zpV:zaX Tryz.prog 117=none:=by kernel_rfl
theorem tStr_117:tStr Tryz.prog 117=false:=by kernel_rfl
theorem tInt_117:tInt Tryz.prog 117=none:=by kernel_rfl
theorem tMap_117:tMap Tryz.prog 117=some (9,4):=by kernel_rfl
theorem tzo_117:tzo Tryz.prog 117=some (.atom (.map none)):=by kernel_rfl
theorem tAgg_119:tAgg Tryz.prog 119=some true:=by kernel_rfl
theorem zoW:zaZ Tryz.prog 119=some 2:=by kernel_rfl
theorem zni:za5 Tryz.prog 119=some 16:=by kernel_rfl
theorem zpU:zaX Tryz.prog 119=none:=by kernel_rfl
theorem tStr_119:tStr Tryz.prog 119=false:=by kernel_rfl
theorem tInt_119:tInt Tryz.prog 119=none:=by kernel_rfl
theorem zm1:tFld Tryz.prog 119 0=some (0,117):=by kernel_rfl
theorem ziM:zbg Tryz.prog 119 0=some (0,1):=by kernel_rfl
theorem zm0:tFld Tryz.prog 119 1=some (1,4):=by kernel_rfl
theorem ziL:zbg Tryz.prog 119 1=some (1,1):=by kernel_rfl
theorem zmU:zcH Tryz.prog 119=true:=by kernel_rfl
theorem tzo_119:tzo Tryz.prog 119=some (.agg [.atom (.map none),.atom (.bool false)]):=by kernel_rfl
theorem tAgg_125:tAgg Tryz.prog 125=some false:=by kernel_rfl
theorem zoV:zaZ Tryz.prog 125=some 1:=by kernel_rfl
theorem znh:za5 Tryz.prog 125=some 8:=by kernel_rfl
theorem zpT:zaX Tryz.prog 125=none:=by kernel_rfl
theorem tStr_125:tStr Tryz.prog 125=false:=by kernel_rfl
theorem tInt_125:tInt Tryz.prog 125=none:=by kernel_rfl
theorem tzo_125:tzo Tryz.prog 125=some (.atom (.pointer none)):=by kernel_rfl
theorem tAgg_142:tAgg Tryz.prog 142=some false:=by kernel_rfl
theorem zoU:zaZ Tryz.prog 142=some 1:=by kernel_rfl
theorem zng:za5 Tryz.prog 142=some 8:=by kernel_rfl
theorem zpS:zaX Tryz.prog 142=none:=by kernel_rfl
theorem tStr_142:tStr Tryz.prog 142=false:=by kernel_rfl
theorem tInt_142:tInt Tryz.prog 142=none:=by kernel_rfl
theorem tzo_142:tzo Tryz.prog 142=some (.atom (.nilFunc)):=by kernel_rfl
theorem tAgg_146:tAgg Tryz.prog 146=some false:=by kernel_rfl
theorem zoT:zaZ Tryz.prog 146=some 1:=by kernel_rfl
theorem znf:za5 Tryz.prog 146=some 8:=by kernel_rfl
theorem zpR:zaX Tryz.prog 146=none:=by kernel_rfl
theorem tStr_146:tStr Tryz.prog 146=false:=by kernel_rfl
theorem tInt_146:tInt Tryz.prog 146=some .u64:=by kernel_rfl
theorem tUnd_146:((Tryz.prog.underlying 146).isSome=true):=by kernel_rfl
theorem tzo_146:tzo Tryz.prog 146=some (.atom (.int .u64 0)):=by kernel_rfl
theorem tAgg_150:tAgg Tryz.prog 150=some false:=by kernel_rfl
theorem zoS:zaZ Tryz.prog 150=some 1:=by kernel_rfl
theorem zne:za5 Tryz.prog 150=some 8:=by kernel_rfl
theorem zpQ:zaX Tryz.prog 150=none:=by kernel_rfl
theorem tStr_150:tStr Tryz.prog 150=false:=by kernel_rfl
theorem tInt_150:tInt Tryz.prog 150=none:=by kernel_rfl
theorem tMap_150:tMap Tryz.prog 150=some (9,23):=by kernel_rfl
theorem tzo_150:tzo Tryz.prog 150=some (.atom (.map none)):=by kernel_rfl
theorem tAgg_152:tAgg Tryz.prog 152=some true:=by kernel_rfl
theorem zoR:zaZ Tryz.prog 152=some 4:=by kernel_rfl
theorem znd:za5 Tryz.prog 152=some 80:=by kernel_rfl
theorem zpP:zaX Tryz.prog 152=none:=by kernel_rfl
theorem tStr_152:tStr Tryz.prog 152=false:=by kernel_rfl
theorem tInt_152:tInt Tryz.prog 152=none:=by kernel_rfl
theorem zmZ:tFld Tryz.prog 152 0=some (0,27):=by kernel_rfl
theorem ziK:zbg Tryz.prog 152 0=some (0,3):=by kernel_rfl
theorem zmY:tFld Tryz.prog 152 1=some (3,150):=by kernel_rfl
theorem ziJ:zbg Tryz.prog 152 1=some (3,1):=by kernel_rfl
theorem zmT:zcH Tryz.prog 152=true:=by kernel_rfl
theorem tzo_152:tzo Tryz.prog 152=some (.agg [.atom (.slice none 0 0),.atom (.slice none 0 0),.atom (.slice none 0 0),.atom (.map none)]):=by kernel_rfl
theorem tAgg_171:tAgg Tryz.prog 171=some false:=by kernel_rfl
theorem zoQ:zaZ Tryz.prog 171=some 1:=by kernel_rfl
theorem znc:za5 Tryz.prog 171=some 8:=by kernel_rfl
theorem zpO:zaX Tryz.prog 171=none:=by kernel_rfl
theorem tStr_171:tStr Tryz.prog 171=false:=by kernel_rfl
theorem tInt_171:tInt Tryz.prog 171=some .i64:=by kernel_rfl
theorem tUnd_171:((Tryz.prog.underlying 171).isSome=true):=by kernel_rfl
theorem tzo_171:tzo Tryz.prog 171=some (.atom (.int .i64 0)):=by kernel_rfl
theorem tAgg_178:tAgg Tryz.prog 178=some false:=by kernel_rfl
theorem zoP:zaZ Tryz.prog 178=some 1:=by kernel_rfl
theorem znb:za5 Tryz.prog 178=some 4:=by kernel_rfl
theorem zpN:zaX Tryz.prog 178=none:=by kernel_rfl
theorem tStr_178:tStr Tryz.prog 178=false:=by kernel_rfl
theorem tInt_178:tInt Tryz.prog 178=some .u32:=by kernel_rfl
theorem tUnd_178:((Tryz.prog.underlying 178).isSome=true):=by kernel_rfl
theorem tzo_178:tzo Tryz.prog 178=some (.atom (.int .u32 0)):=by kernel_rfl
theorem tAgg_180:tAgg Tryz.prog 180=some false:=by kernel_rfl
theorem zoO:zaZ Tryz.prog 180=some 1:=by kernel_rfl
theorem zna:za5 Tryz.prog 180=some 8:=by kernel_rfl
theorem zpM:zaX Tryz.prog 180=none:=by kernel_rfl
theorem tStr_180:tStr Tryz.prog 180=false:=by kernel_rfl
theorem tInt_180:tInt Tryz.prog 180=some .u64:=by kernel_rfl
theorem tUnd_180:((Tryz.prog.underlying 180).isSome=true):=by kernel_rfl
theorem tzo_180:tzo Tryz.prog 180=some (.atom (.int .u64 0)):=by kernel_rfl
theorem tAgg_183:tAgg Tryz.prog 183=some false:=by kernel_rfl
theorem zoN:zaZ Tryz.prog 183=some 1:=by kernel_rfl
theorem zm9:za5 Tryz.prog 183=some 8:=by kernel_rfl
theorem zpL:zaX Tryz.prog 183=none:=by kernel_rfl
theorem tStr_183:tStr Tryz.prog 183=false:=by kernel_rfl
theorem tInt_183:tInt Tryz.prog 183=none:=by kernel_rfl
theorem tzo_183:tzo Tryz.prog 183=some (.atom (.nilFunc)):=by kernel_rfl
theorem tAgg_190:tAgg Tryz.prog 190=some false:=by kernel_rfl
theorem zoM:zaZ Tryz.prog 190=some 1:=by kernel_rfl
theorem zm8:za5 Tryz.prog 190=some 8:=by kernel_rfl
theorem zpK:zaX Tryz.prog 190=none:=by kernel_rfl
theorem tStr_190:tStr Tryz.prog 190=false:=by kernel_rfl
theorem tInt_190:tInt Tryz.prog 190=some .u64:=by kernel_rfl
theorem tUnd_190:((Tryz.prog.underlying 190).isSome=true):=by kernel_rfl
theorem tzo_190:tzo Tryz.prog 190=some (.atom (.int .u64 0)):=by kernel_rfl
theorem tAgg_194:tAgg Tryz.prog 194=some false:=by kernel_rfl
theorem zoL:zaZ Tryz.prog 194=some 1:=by kernel_rfl
theorem zm7:za5 Tryz.prog 194=some 8:=by kernel_rfl
theorem zpJ:zaX Tryz.prog 194=none:=by kernel_rfl
theorem tStr_194:tStr Tryz.prog 194=false:=by kernel_rfl
theorem tInt_194:tInt Tryz.prog 194=none:=by kernel_rfl
theorem tzo_194:tzo Tryz.prog 194=some (.atom (.pointer none)):=by kernel_rfl
theorem zn6:PV.junk.flatB=true:=rfl
theorem zn7 (v:Value):(PV.atom v).flatB=true:=rfl
theorem flatB_ob (i sz off len:Nat):(PV.ob i sz off len).flatB=true:=rfl
theorem flatB_mp (i:Nat):(PV.mp i).flatB=true:=rfl
theorem zrj (i sz k c:Nat):(PV.ptr i sz k c).flatB=true:=rfl
theorem zrk (l:List PV):(PV.agg l).flatB=zhg l:=by simp only[PV.flatB]
theorem zrh (l:List PV):(PV.tup l).flatB=zhg l:=by simp only[PV.flatB]
theorem flatB_fn (f:FuncId) (l:List PV):(PV.fn f l).flatB=zhg l:=by simp only[PV.flatB]
theorem zri (sz:Nat):(PV.sl sz []).flatB=true:=rfl
theorem zrg:zhg []=true:=rfl
theorem zn5 (p:PV) (l:List PV):zhg (p :: l)=(p.flatB && zhg l):=rfl
def encI (n:Int):PV:=.atom (.int .i64 n)
def encS (s:ByteArray):PV:=.atom (.string s)
def ints (l:List Int):PV:=.sl 1 (l.map encI)
def strs (l:List ByteArray):PV:=.sl 1 (l.map encS)
def li (l:List Int) (i:Nat):Int:=l.getD i 0
def ls (l:List ByteArray) (i:Nat):ByteArray:=l.getD i ByteArray.empty
theorem zbo{l:List Int}{k:Nat}(h:k<l.length):(l.map encI).getD k .junk=encI (li l k):=by
  simp[li,List.getD_eq_getElem?_getD,h]
theorem zbf{l:List ByteArray}{k:Nat}(h:k<l.length):(l.map encS).getD k .junk=encS (ls l k):=by
  simp[ls,List.getD_eq_getElem?_getD,h]
theorem zbn{α:Type}(f:α→PV) (h:∀x,(f x).pure=true) (l:List α):zaE (l.map f)=true:=by
  rw[zbr,List.all_map];exact List.all_eq_true.2 fun x _=>h x
theorem zah (l:List Int):(ints l).pure=true:=zbn encI (fun _=>rfl) l
theorem zag (l:List ByteArray):(strs l).pure=true:=zbn encS (fun _=>rfl) l
theorem zbE (ρ:Nat→Nat) (l:List Int):(ints l).ren ρ=ints l:=zbc ρ _ (zah l)
theorem zbD (ρ:Nat→Nat) (l:List ByteArray):(strs l).ren ρ=strs l:=zbc ρ _ (zag l)
theorem zaf{x:Int}(h0 : -9223372036854775808≤x) (h1:x≤9223372036854775807):IntKind.i64.wrap x=x:=by rw[IntKind.wrap_i64];omega
mutual
theorem zjj:∀p:PV,p.pure=true→p.noOb=true
  | .junk,_=>rfl
  | .atom _,_=>rfl
  | .agg l,h=>by simp only[PV.pure] at h;simp only[PV.noOb,zdn l h]
  | .tup l,h=>by simp only[PV.pure] at h;simp only[PV.noOb,zdn l h]
  | .sl _ l,_=>rfl
  | .own _ _,h=>by cases h
  | .ob _ _ _ _,h=>by cases h
  | .ptr _ _ _ _,h=>by cases h
  | .fptr _ l _ _,_=>rfl
  | .fmp _,_=>rfl
  | .mp _,h=>by cases h
  | .it _,h=>by cases h
  | .mark _,h=>by cases h
  | .is _ _,h=>by cases h
  | .amp,_=>rfl
  | .fn _ l,h=>by simp only[PV.pure] at h;simp only[PV.noOb,zdn l h]
theorem zdn:∀l:List PV,zaE l=true→zgb l=true
  | [],_=>rfl
  | p :: l,h=>by simp only[zaE,Bool.and_eq_true] at h;simp only[zgb,zjj p h.1,zdn l h.2];rfl
end
theorem zau (H:Nat→Option AO) (keep:Nat→Bool) (n:Nat) {p:PV}(h:p.pure=true):sealed H keep n p=p:=ze7 H keep n p (zjj p h)
theorem zay (H:Nat→Option AO) (keep:Nat→Bool) (n:Nat) {l:List PV}(h:zaE l=true):l.map (sealed H keep n)=l:=zcQ H keep n l (zdn l h)
theorem sp{H:Nat→Option AO}{keep:Nat→Bool}{n:Nat}{ρ:Nat→Nat}{p:PV}(h:p.pure=true):sealed H keep n p=p.ren ρ:=(zau H keep n h).trans (zbc ρ p h).symm
theorem za4 (ρ:Nat→Nat) {l:List PV}(h:zaE l=true):l.map (PV.ren ρ)=l:=by
  have:=zbm ρ l h
  rwa [zba] at this
theorem zap (a b:List PV):zaE (a++b)=(zaE a && zaE b):=by rw[zbr,zbr,zbr,List.all_append]
theorem zao (l:List Int):zaE (l.map encI)=true:=zbn encI (fun _=>rfl) l
theorem zaq (l:List ByteArray):zaE (l.map encS)=true:=zbn encS (fun _=>rfl) l
theorem zas (l:List (List Int)):zaE (l.map ints)=true:=zbn ints zah l
theorem zar (l:List (List ByteArray)):zaE (l.map strs)=true:=zbn strs zag l
theorem zan (H:Nat→Option AO) (keep:Nat→Bool) (n:Nat) (l:List Int):(l.map encI).map (sealed H keep n)=l.map encI:=zay H keep n (zao l)
theorem zam (H:Nat→Option AO) (keep:Nat→Bool) (n:Nat) (l:List ByteArray):(l.map encS).map (sealed H keep n)=l.map encS:=zay H keep n (zaq l)
theorem zal (H:Nat→Option AO) (keep:Nat→Bool) (n:Nat) (l:List (List Int)):(l.map ints).map (sealed H keep n)=l.map ints:=zay H keep n (zas l)
theorem zak (H:Nat→Option AO) (keep:Nat→Bool) (n:Nat) (l:List (List ByteArray)):(l.map strs).map (sealed H keep n)=l.map strs:=zay H keep n (zar l)
theorem zaD (ρ:Nat→Nat) (l:List Int):(l.map encI).map (PV.ren ρ)=l.map encI:=za4 ρ (zao l)
theorem zaC (ρ:Nat→Nat) (l:List ByteArray):(l.map encS).map (PV.ren ρ)=l.map encS:=za4 ρ (zaq l)
theorem zaB (ρ:Nat→Nat) (l:List (List Int)):(l.map ints).map (PV.ren ρ)=l.map ints:=za4 ρ (zas l)
theorem zaA (ρ:Nat→Nat) (l:List (List ByteArray)):(l.map strs).map (PV.ren ρ)=l.map strs:=za4 ρ (zar l)
theorem zaW (ρ:Nat→Nat) (l:List Int):renL ρ (l.map encI)=l.map encI:=zbm ρ _ (zao l)
theorem zaV (ρ:Nat→Nat) (l:List ByteArray):renL ρ (l.map encS)=l.map encS:=zbm ρ _ (zaq l)
theorem zaU (ρ:Nat→Nat) (l:List (List Int)):renL ρ (l.map ints)=l.map ints:=zbm ρ _ (zas l)
theorem zaT (ρ:Nat→Nat) (l:List (List ByteArray)):renL ρ (l.map strs)=l.map strs:=zbm ρ _ (zar l)
theorem zre (l:List ByteArray):(l.map encS).all PV.flatB=true:=by rw[List.all_map];exact List.all_eq_true.2 fun _ _=>rfl
theorem one_encI (l:List Int):((l.map encI).all fun q=>q.cells.all PV.one)=true:=by rw[List.all_map];exact List.all_eq_true.2 fun _ _=>rfl
theorem one_encS (l:List ByteArray):((l.map encS).all fun q=>q.cells.all PV.one)=true:=by rw[List.all_map];exact List.all_eq_true.2 fun _ _=>rfl
theorem one_ints (l:List (List Int)):((l.map ints).all fun q=>q.cells.all PV.one)=true:=by rw[List.all_map];exact List.all_eq_true.2 fun _ _=>rfl
theorem one_strs (l:List (List ByteArray)):((l.map strs).all fun q=>q.cells.all PV.one)=true:=by rw[List.all_map];exact List.all_eq_true.2 fun _ _=>rfl
theorem zae{x:Int}(h0:0≤x) (h1:x≤255):IntKind.u8.wrap x=x:=by rw[IntKind.wrap_u8];omega
theorem ResOk.one{S:St}{ts:List Nat}{r:PV}{o o':AO}(i:Nat) (k:Nat) (h0:S.obj i=some o') (hr:sealed S.obj (fun j=>[i].contains j) k (retV S ts)=r.ren (rmap [i] S.nx)) (hs:o'.sz=o.sz)
    (he:o'.els.map (sealed S.obj (fun j=>[i].contains j) k)=o.els.map (PV.ren (rmap [i] S.nx))):ResOk S ts r [o]:=
  ⟨[i],k,rfl,by simp,hr,fun j ob hj=>by
    cases j with
    | zero => obtain rfl:o=ob:=by simpa using hj
              exact⟨o',h0,hs,he⟩
    | succ j=>simp at hj⟩
theorem ResOk.two{S:St}{ts:List Nat}{r:PV}{o o' u u':AO}(i j:Nat) (k:Nat) (hij:i≠j) (h0:S.obj i=some o') (h1:S.obj j=some u') (hr:sealed S.obj (fun x=>[i,j].contains x) k (retV S ts)=r.ren (rmap [i,j] S.nx))
    (hs:o'.sz=o.sz) (hs2:u'.sz=u.sz)
    (he:o'.els.map (sealed S.obj (fun x=>[i,j].contains x) k)=o.els.map (PV.ren (rmap [i,j] S.nx))) (he2:u'.els.map (sealed S.obj (fun x=>[i,j].contains x) k)=u.els.map (PV.ren (rmap [i,j] S.nx))):ResOk S ts r [o,u]:=
  ⟨[i, j], k,rfl,by simp[hij],hr,fun n ob hn=>by
    match n with
    | 0 => obtain rfl:o=ob:=by simpa using hn
           exact⟨o',h0,hs,he⟩
    | 1 => obtain rfl:u=ob:=by simpa using hn
           exact⟨u',h1,hs2,he2⟩
    | n+2=>simp at hn⟩
theorem ResOk.row{S:St}{ts:List Nat}{r:PV}{sz:Nat}{els els':List PV}(i:Nat) (h0:S.obj i=some ⟨sz,els⟩) (he:els=els') (hp:zaE els'=true) (hr:sealed S.obj (fun j=>[i].contains j) 4 (retV S ts)=r.ren (rmap [i] S.nx)):ResOk S ts r [⟨sz,els'⟩]:=by
  subst he
  exact ResOk.one i 4 h0 hr rfl (by rw[zay _ _ _ hp,za4 _ hp])
theorem LeqS.row{S:St}{L:List Nat}{i k sz:Nat}{els els':List PV}(h0:S.obj (rmap L S.nx i)=some ⟨sz,els⟩) (he:els=els') (hp:zaE els'=true):
    ∃o',S.obj (rmap L S.nx i)=some o'∧o'.sz=(AO.mk sz els').sz∧o'.els.map (sealed S.obj (fun i=>L.contains i) k)=(AO.mk sz els').els.map (PV.ren (rmap L S.nx)):=
  ⟨_,h0,rfl,by subst he;show els.map _=els.map _;rw[zay _ _ _ hp,za4 _ hp]⟩
@[congr] theorem Tri.congr {P:Program} {n:Nat} {c:Code} {S S':St} {Q:Exit→St→Prop} (h:S=S'):Tri P n c S Q=Tri P n c S' Q:=by rw[h]
def notEnt:PV→Bool
  | .agg _ | .sl _ _ | .ob _ _ _ _ | .ptr _ _ _ _ | .fptr _ _ _ _ | .fn _ _ | .mp _=>true
  | .atom (.tuple _)=>false
  | .atom _=>true
  | _=>false
theorem zjq{D:Nat→Prop}{μ:Nat→Option Nat}{F:Nat→Prop}{w:World}{p:PV}{x:Array Value}(h:notEnt p=true) (hr:Rep D μ F w p (.tuple x)):False:=by
  cases hr<;>cases h
theorem ObjOk.cellsOf{D:Nat→Prop}{μ:Nat→Option Nat}{F:Nat→Prop}{w:World}{b k:Nat}{o:AO}{p:PV}(h:ObjOk D μ F w b o) (hk:o.els[k]? = some p) (hp:notEnt p=true):CellsOk D μ F w b o:=by
  rcases h with h|⟨es,ck,_,_,h3,h4⟩|⟨rem,cur,h1,h2⟩
  · exact h
  · obtain⟨hl,he⟩:=List.getElem?_eq_some_iff.1 hk
    have:=h4 k hl
    rw[he] at this
    exact(zjq hp this).elim
  · rw[h1] at hk
    match k,hk with
    | 0,hk=>cases hk;cases hp
    | 1,hk=>
      cases hk
      rcases h2 with ⟨_,_,_,_,_,_,_,_,_,_,h7⟩|⟨_,_,_,_,_,h7⟩
      · rcases h7 with h7|⟨e,_,_,h7⟩
        · subst h7;cases hp
        · exact(zjq hp h7).elim
      · subst h7;cases hp
    | k+2,hk=>simp at hk
theorem Tri.shuffle{P:Program}{n:Nat}{c:Code}{S:St}{Q:Exit→St→Prop}(d i:Nat) (o:AO) (els':List PV) (hd:S.get d=.mp i) (ho:S.obj i=some o) (hp:o.els.Perm els') (ht:Tri P n c ⟨S.env,(i,some ⟨o.sz,els'⟩) :: S.hp,S.nx,S.gh⟩ Q):Tri P n c S Q:=fun w0 F0 D μ F G a w hS=>by
  refine ht w0 F0 D μ F G a w ⟨hS.defers,hS.size,hS.env,?_,hS.ids,hS.ghl,hS.gh⟩
  have hr:=hS.env d
  rw[hd] at hr
  generalize a.tmps.getD d undef=u at hr
  have e:(St.mk S.env ((i,some ⟨o.sz,els'⟩) :: S.hp) S.nx S.gh).obj=upd S.obj i (some ⟨o.sz,els'⟩):=by
    funext j
    show(lk ((i,_) :: S.hp) j).join=_
    unfold upd
    by_cases hj:i=j
    · rw[lk,if_pos hj,if_pos hj.symm];rfl
    · rw[lk,if_neg hj,if_neg (Ne.symm hj)];rfl
  rw[e]
  cases hr with
  | mp _ b h1 hb hk=>exact hS.heap.shuffle ho hb hk hp
def St.born (S:St) (d sz:Nat):St:=⟨(d,.ob S.nx sz 0 0) :: S.env,(S.nx,some ⟨sz,[]⟩) :: S.hp,S.nx+1,S.gh⟩
theorem zfP{D:Nat→Prop}{μ:Nat→Option Nat}{F:Nat→Prop}{w:World}{v:Value}(h:Rep D μ F w (.atom (.slice none 0 0)) v):v=.slice none 0 0:=by cases h;rfl
theorem Tri.born{P:Program}{n:Nat}{c:Code}{S:St}{Q:Exit→St→Prop}(d sz:Nat) (h:S.get d=.atom (.slice none 0 0)) (ht:Tri P n c (S.born d sz) Q):Tri P n c S Q:=fun w0 F0 D μ F G a w hS=>by
  have hn:¬D S.nx:=fun hd=>Nat.lt_irrefl _ (hS.ids _ hd)
  have hold:=zeI (D:=D) (μ:=μ) (none:Option Nat) hn
  refine ht w0 F0 (also D S.nx) (upd μ S.nx none) F G a w ⟨hS.defers,hS.size,fun s=>?_,?_,fun i hi=>?_,hS.ghl,fun i hi=>?_⟩
  · show Rep _ _ _ _ ((lk ((d,.ob S.nx sz 0 0) :: S.env) s).getD .junk) _
    unfold lk
    split
    · rename_i hs
      subst hs
      have:=hS.env d
      rw[h] at this
      rw[zfP this]
      exact .obn S.nx sz (.inr rfl) (zbj ..)
    · exact(hS.env s).stay (Stay.refl _ _) hold (fun _ h=>h)
  · have:=HeapSim.add hS.heap S.nx hn ⟨sz,[]⟩ none (Stay.refl _ _) hS.heap.ext (Nat.le_refl _) rfl (fun b hb=>by cases hb) (fun _ _ _ _ _=>rfl)
    have e:(S.born d sz).obj=upd S.obj S.nx (some ⟨sz,[]⟩):=by
      funext i
      show(lk ((S.nx,some ⟨sz,[]⟩) :: S.hp) i).join=_
      unfold lk upd
      by_cases hi:S.nx=i
      · rw[if_pos hi,if_pos hi.symm];rfl
      · rw[if_neg hi,if_neg (Ne.symm hi)];rfl
    rw[e];exact this
  · rcases hi with hi|rfl
    · exact Nat.lt_succ_of_lt (hS.ids i hi)
    · exact Nat.lt_succ_self _
  · exact(hS.gh i hi).stay (Stay.refl _ _) hold (fun _ h=>h)
theorem Tri.asSl{P:Program}{n:Nat}{c:Code}{S:St}{Q:Exit→St→Prop}(d sz:Nat) (h:S.get d=.atom (.slice none 0 0)) (ht:Tri P n c (S.known d (.sl sz [])) Q):Tri P n c S Q:=fun w0 F0 D μ F G a w hS=>by
  refine ht w0 F0 D μ F G a w ⟨hS.defers,hS.size,fun s=>?_,hS.heap,hS.ids,hS.ghl,hS.gh⟩
  show Rep _ _ _ _ ((lk ((d,.sl sz []) :: S.env) s).getD .junk) _
  unfold lk
  split
  · rename_i hs
    subst hs
    have:=hS.env d
    rw[h] at this
    rw[zfP this]
    exact .sl0 sz none 0 (by unfold maxLen;omega) (fun _=>rfl) (fun x hx=>by cases hx)
  · exact hS.env s
theorem ResOk.frz{S:St}{ts:List Nat}{r:PV}(k:Nat) (hr:sealed S.obj (fun _=>false) k (retV S ts)=r) (hp:r.pure=true):ResOk S ts r []:=
  ⟨[],k,rfl,List.nodup_nil,by rw[zbc _ r hp];exact hr,fun i o hi=>by simp at hi⟩
theorem zaG{α:Type}(f:α→PV) (l:List α):(l.map f).take l.length=l.map f:=by rw[List.take_of_length_le];simp
theorem seal_row{H:Nat→Option AO}{keep:Nat→Bool}{k i sz n:Nat}{els:List PV}(hi:H i=some ⟨sz,els⟩) (hk:keep i=false) (hn:n=els.length) (hp:zaE els=true):sealed H keep (k+1) (.ob i sz 0 n)=.sl sz els:=by
  simp only[sealed,hk,hi,hn]
  simp only[Bool.false_eq_true,if_false,Nat.zero_add,Nat.le_refl,and_self,if_true,List.drop_zero,List.take_length,zay _ _ _ hp]
theorem zl2{l:List PV}(h:(l.all fun q=>q.cells.all PV.one)=true) (n:Nat):((l.take n).all fun q=>q.cells.all PV.one)=true:=by
  rw[List.all_eq_true] at h ⊢
  exact fun x hx=>h x (List.mem_of_mem_take hx)
theorem zl3{l:List PV}(h:(l.all fun q=>q.cells.all PV.one)=true) (n:Nat):((l.drop n).all fun q=>q.cells.all PV.one)=true:=by
  rw[List.all_eq_true] at h ⊢
  exact fun x hx=>h x (List.mem_of_mem_drop hx)
theorem znG{l:List PV}(h:zaE l=true) (n:Nat):zaE (l.take n)=true:=by
  rw[zbr,List.all_eq_true] at h ⊢
  exact fun x hx=>h x (List.mem_of_mem_take hx)
theorem zeK{k:Nat}(h:0<k):((k:Int) - 1).toNat=k - 1:=by omega
@[congr] theorem trOk.congr {nx nx':Nat} {D:List (List Nat)} {tr tr':List Tr} (h:nx=nx') (h2:tr=tr'):trOk nx D tr=trOk nx' D tr':=by rw[h,h2]
/- What stands in a slot, looked up from the newest row on. -/
theorem zim{S:St}{d:Nat}{p:PV}:(S.known d p).get d=p:=by simp[St.known,St.get,lk]
theorem zhe{S:St}{d s:Nat}{p:PV}(h:d≠s):(S.known d p).get s=S.get s:=by simp[St.known,St.get,lk,h]
theorem zjL{S:St}{d sz:Nat}:(S.born d sz).get d=.ob S.nx sz 0 0:=by simp[St.born,St.get,lk]
theorem zin{S:St}{d sz s:Nat}(h:d≠s):(S.born d sz).get s=S.get s:=by simp[St.born,St.get,lk,h]
theorem zn1{i:Nat}{x:PV}{t:List (Nat×PV)}{hp:List (Nat×Option AO)}{nx:Nat}{gh:List PV}:St.get ⟨(i,x) :: t,hp,nx,gh⟩ i=x:=by simp[St.get,lk]
theorem zlh{i s:Nat}{x:PV}{t:List (Nat×PV)}{hp:List (Nat×Option AO)}{nx:Nat}{gh:List PV}(h:i≠s):St.get ⟨(i,x) :: t,hp,nx,gh⟩ s=St.get ⟨t,hp,nx,gh⟩ s:=by simp[St.get,lk,h]
theorem zn0{s:Nat}{hp:List (Nat×Option AO)}{nx:Nat}{gh:List PV}:St.get ⟨[],hp,nx,gh⟩ s=.junk:=rfl
/- The reckoning does not look at what stands behind an operation before it has come there. -/
@[congr] theorem xGuard.cong {ops:Array Oper} {S S':St} {o:Oper} {run skip:St→Prop} {tq:Unit→Prop} (hq:∀u:Unit,(True,u).1=tq u) (h:S=S'):xGuard ops S o run skip=xGuard ops S' o run skip:=by subst h;rfl
@[congr] theorem xOps.cong {P:Program} {ops:Array Oper} {l:List Oper} {S S':St} {K:St→Prop} {tq:Unit→Prop} (hq:∀u:Unit,(True,u).1=tq u) (h:S=S'):xOps P ops l S K=xOps P ops l S' K:=by subst h;rfl
@[congr] theorem xOpsT.cong {P:Program} {ops:Array Oper} {l:List Oper} {S S':St} {tr tr':List Tr} {K:St→List Tr→Prop} {tq:Unit→Prop} (hq:∀u:Unit,(True,u).1=tq u) (h:S=S') (h2:tr=tr'):xOpsT P ops l S tr K=xOpsT P ops l S' tr' K:=by subst h h2;rfl
@[congr] theorem vop.cong {P:Program} {op:Op} {S S':St} {K:PV→Eff→Prop} {tq:Unit→Prop} (hq:∀u:Unit,(True,u).1=tq u) (h:S=S'):vop P op S K=vop P op S' K:=by subst h;rfl
@[congr] theorem vLoad.cong {P:Program} {t:TypeId} {S S':St} {a a':PV} {K:PV→Eff→Prop} {tq:Unit→Prop} (hq:∀u:Unit,(True,u).1=tq u) (h:S=S') (h2:a=a'):vLoad P t S a K=vLoad P t S' a' K:=by subst h h2;rfl
@[congr] theorem vStore.cong {P:Program} {t:TypeId} {S S':St} {a a' v v':PV} {K:PV→Eff→Prop} {tq:Unit→Prop} (hq:∀u:Unit,(True,u).1=tq u) (h:S=S') (h2:a=a') (h3:v=v'):vStore P t S a v K=vStore P t S' a' v' K:=by subst h h2 h3;rfl
@[congr] theorem vFieldAddr.cong {P:Program} {t:TypeId} {f:Nat} {a a':PV} {K:PV→Eff→Prop} {tq:Unit→Prop} (hq:∀u:Unit,(True,u).1=tq u) (h:a=a'):vFieldAddr P t f a K=vFieldAddr P t f a' K:=by subst h;rfl
@[congr] theorem vField.cong {P:Program} {t:TypeId} {f:Nat} {a a':PV} {K:PV→Eff→Prop} {tq:Unit→Prop} (hq:∀u:Unit,(True,u).1=tq u) (h:a=a'):vField P t f a K=vField P t f a' K:=by subst h;rfl
@[congr] theorem vIndexAddr.cong {P:Program} {t:TypeId} {a a' i i':PV} {K:PV→Eff→Prop} {tq:Unit→Prop} (hq:∀u:Unit,(True,u).1=tq u) (h:a=a') (h2:i=i'):vIndexAddr P t a i K=vIndexAddr P t a' i' K:=by subst h h2;rfl
@[congr] theorem vIndex.cong {P:Program} {t:TypeId} {a a' i i':PV} {K:PV→Eff→Prop} {tq:Unit→Prop} (hq:∀u:Unit,(True,u).1=tq u) (h:a=a') (h2:i=i'):vIndex P t a i K=vIndex P t a' i' K:=by subst h h2;rfl
@[congr] theorem vBin.cong {P:Program} {op:BinOp} {t:TypeId} {a a' b b':PV} {K:PV→Eff→Prop} {tq:Unit→Prop} (hq:∀u:Unit,(True,u).1=tq u) (h:a=a') (h2:b=b'):vBin P op t a b K=vBin P op t a' b' K:=by subst h h2;rfl
@[congr] theorem vSlice.cong {P:Program} {t:TypeId} {S S':St} {a a':PV} {lo hi:Option Operand} {K:PV→Eff→Prop} {tq:Unit→Prop} (hq:∀u:Unit,(True,u).1=tq u) (h:S=S') (h2:a=a'):vSlice P t S a lo hi K=vSlice P t S' a' lo hi K:=by subst h h2;rfl
@[congr] theorem vBase.cong {S S':St} {sz sz':Nat} {a a':PV} {K:List PV→List Nat→Prop} {tq:Unit→Prop} (hq:∀u:Unit,(True,u).1=tq u) (h:S=S') (h1:sz=sz') (h2:a=a'):vBase S sz a K=vBase S' sz' a' K:=by subst h h1 h2;rfl
@[congr] theorem vSrc.cong {S S':St} {sz sz':Nat} {a a':PV} {K:List PV→List Nat→Prop} {tq:Unit→Prop} (hq:∀u:Unit,(True,u).1=tq u) (h:S=S') (h1:sz=sz') (h2:a=a'):vSrc S sz a K=vSrc S' sz' a' K:=by subst h h1 h2;rfl
@[congr] theorem vAppend.cong {P:Program} {t:TypeId} {S S':St} {a a' b b':PV} {K:PV→Eff→Prop} {tq:Unit→Prop} (hq:∀u:Unit,(True,u).1=tq u) (h:S=S') (h2:a=a') (h3:b=b'):vAppend P t S a b K=vAppend P t S' a' b' K:=by subst h h2 h3;rfl
@[congr] theorem vConvert.cong {P:Program} {t t2:TypeId} {S S':St} {a a':PV} {K:PV→Eff→Prop} {tq:Unit→Prop} (hq:∀u:Unit,(True,u).1=tq u) (h:S=S') (h2:a=a'):vConvert P t t2 S a K=vConvert P t t2 S' a' K:=by subst h h2;rfl
@[congr] theorem vMake.cong {P:Program} {t:TypeId} {S S':St} {a a' b b':PV} {K:PV→Eff→Prop} {tq:Unit→Prop} (hq:∀u:Unit,(True,u).1=tq u) (h:S=S') (h2:a=a') (h3:b=b'):vMake P t S a b K=vMake P t S' a' b' K:=by subst h h2 h3;rfl
@[congr] theorem vMinMax.cong {mx:Bool} {a a' b b':PV} {K:PV→Eff→Prop} {tq:Unit→Prop} (hq:∀u:Unit,(True,u).1=tq u) (h:a=a') (h2:b=b'):vMinMax mx a b K=vMinMax mx a' b' K:=by subst h h2;rfl
@[congr] theorem vLen.cong {P:Program} {t:TypeId} {S S':St} {a a':PV} {K:PV→Eff→Prop} {tq:Unit→Prop} (hq:∀u:Unit,(True,u).1=tq u) (h0:S=S') (h:a=a'):vLen P t S a K=vLen P t S' a' K:=by subst h0 h;rfl
@[congr] theorem vopI.cong {P:Program} {op:Op} {S S':St} {K:PV→Eff→Prop} {tq:Unit→Prop} (hq:∀u:Unit,(True,u).1=tq u) (h:S=S'):vopI P op S K=vopI P op S' K:=by subst h;rfl
@[congr] theorem vFnI.cong {P:Program} {S S':St} {g g':PV} {xs:List Operand} {K:PV→Eff→Prop} {tq:Unit→Prop} (hq:∀u:Unit,(True,u).1=tq u) (h:S=S') (h2:g=g'):vFnI P S g xs K=vFnI P S' g' xs K:=by subst h h2;rfl
@[congr] theorem vProc.cong {P:Program} {S S':St} {f:FuncId} {vals vals':List PV} {K:PV→Eff→Prop} {tq:Unit→Prop} (hq:∀u:Unit,(True,u).1=tq u) (h:S=S') (h2:vals=vals'):vProc P S f vals K=vProc P S' f vals' K:=by subst h h2;rfl
@[congr] theorem vFnD.cong {P:Program} {S S':St} {g g':PV} {xs:List Operand} {K:PV→Eff→Prop} {tq:Unit→Prop} (hq:∀u:Unit,(True,u).1=tq u) (h:S=S') (h2:g=g'):vFnD P S g xs K=vFnD P S' g' xs K:=by subst h h2;rfl
@[congr] theorem vProcD.cong {P:Program} {S S':St} {f:FuncId} {vals vals':List PV} {K:PV→Eff→Prop} {tq:Unit→Prop} (hq:∀u:Unit,(True,u).1=tq u) (h:S=S') (h2:vals=vals'):vProcD P S f vals K=vProcD P S' f vals' K:=by subst h h2;rfl
@[congr] theorem vFn.cong {P:Program} {S S':St} {g g':PV} {xs:List Operand} {K:PV→Eff→Prop} {tq:Unit→Prop} (hq:∀u:Unit,(True,u).1=tq u) (h:S=S') (h2:g=g'):vFn P S g xs K=vFn P S' g' xs K:=by subst h h2;rfl
@[congr] theorem vBinO.cong {P:Program} {op:BinOp} {t:TypeId} {S S':St} {x y:Operand} {K:PV→Eff→Prop} {tq:Unit→Prop} (hq:∀u:Unit,(True,u).1=tq u) (h:S=S'):vBinO P op t S x y K=vBinO P op t S' x y K:=by subst h;rfl
@[congr] theorem vCallO.cong {P:Program} {S S':St} {c:Callee} {xs:List Operand} {ts:List TypeId} {K:PV→Eff→Prop} {tq:Unit→Prop} (hq:∀u:Unit,(True,u).1=tq u) (h:S=S'):vCallO P S c xs ts K=vCallO P S' c xs ts K:=by subst h;rfl
@[congr] theorem vMakeF.cong {S S':St} {fn:Fn} {first cap:List Operand} {K:PV→Eff→Prop} {tq:Unit→Prop} (hq:∀u:Unit,(True,u).1=tq u) (h:S=S'):vMakeF S fn first cap K=vMakeF S' fn first cap K:=by subst h;rfl
@[congr] theorem vUn.cong {op:UnOp} {a a':PV} {K:PV→Eff→Prop} {tq:Unit→Prop} (hq:∀u:Unit,(True,u).1=tq u) (h:a=a'):vUn op a K=vUn op a' K:=by subst h;rfl
theorem li_ext{a b:List Int}(h:a.length=b.length) (h2:∀i,i<b.length→li a i=li b i):a=b:=
  List.ext_getElem h fun i h1 h3=>by
    have:=h2 i h3
    simpa[li,List.getD_eq_getElem?_getD,h1,h3] using this
theorem ls_ext{a b:List ByteArray}(h:a.length=b.length) (h2:∀i,i<b.length→ls a i=ls b i):a=b:=
  List.ext_getElem h fun i h1 h3=>by
    have:=h2 i h3
    simpa[ls,List.getD_eq_getElem?_getD,h1,h3] using this
theorem zgO{l:List Int}{k:Nat}(h:k<l.length):li l k∈l:=by
  have:li l k=l[k]:=by simp[li,List.getD_eq_getElem?_getD,h]
  rw[this];exact List.getElem_mem h
theorem zgL{l:List ByteArray}{k:Nat}(h:k<l.length):ls l k∈l:=by
  have:ls l k=l[k]:=by simp[ls,List.getD_eq_getElem?_getD,h]
  rw[this];exact List.getElem_mem h
theorem aB{p q:Bool}(h:p=q):PV.atom (.bool p)=.atom (.bool q):=by rw[h]
theorem aI{k:IntKind}{p q:Int}(h:p=q):PV.atom (.int k p)=.atom (.int k q):=by rw[h]
theorem aS{p q:ByteArray}(h:p=q):PV.atom (.string p)=.atom (.string q):=by rw[h]
end Go.Proofs.YtehoglapajkabaaGreat

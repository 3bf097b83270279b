/-
  The types of the translation,as plain facts.
-/
import Derived.Test.YtehoglapajkabaaGreatQV16
import Derived.Test.YtehoglapajkabaaGreatProg
import Derived.KernelRfl
set_option linter.all false
namespace Go.Proofs.YtehoglapajkabaaGreat
open Go Go.RowKit
set_option maxRecDepth 100000
theorem tAgg_1:tAgg Tryz.prog 1=some false:=by kernel_rfl
theorem tSize_1:zaL Tryz.prog 1=some 1:=by kernel_rfl
theorem tBytes_1:zaW Tryz.prog 1=some 8:=by kernel_rfl
theorem tElem_1:zaK Tryz.prog 1=none:=by kernel_rfl
theorem tStr_1:tStr Tryz.prog 1=false:=by kernel_rfl
theorem tInt_1:tInt Tryz.prog 1=none:=by kernel_rfl
theorem tzo_1:tzo Tryz.prog 1=some (.atom (.nilFunc)):=by kernel_rfl
theorem tAgg_2:tAgg Tryz.prog 2=some false:=by kernel_rfl
theorem tSize_2:zaL Tryz.prog 2=some 1:=by kernel_rfl
theorem tBytes_2:zaW Tryz.prog 2=some 8:=by kernel_rfl
theorem tElem_2:zaK Tryz.prog 2=none:=by kernel_rfl
theorem tStr_2:tStr Tryz.prog 2=false:=by kernel_rfl
theorem tInt_2:tInt Tryz.prog 2=some .i64:=by kernel_rfl
theorem tUnd_2:((Tryz.prog.underlying 2).isSome=true):=by kernel_rfl
theorem tzo_2:tzo Tryz.prog 2=some (.atom (.int .i64 0)):=by kernel_rfl
theorem tAgg_3:tAgg Tryz.prog 3=some false:=by kernel_rfl
theorem tSize_3:zaL Tryz.prog 3=some 1:=by kernel_rfl
theorem tBytes_3:zaW Tryz.prog 3=some 8:=by kernel_rfl
theorem tElem_3:zaK Tryz.prog 3=none:=by kernel_rfl
theorem tStr_3:tStr Tryz.prog 3=false:=by kernel_rfl
theorem tInt_3:tInt Tryz.prog 3=some .i64:=by kernel_rfl
theorem tUnd_3:((Tryz.prog.underlying 3).isSome=true):=by kernel_rfl
theorem tzo_3:tzo Tryz.prog 3=some (.atom (.int .i64 0)):=by kernel_rfl
theorem tAgg_4:tAgg Tryz.prog 4=some false:=by kernel_rfl
theorem tSize_4:zaL Tryz.prog 4=some 1:=by kernel_rfl
theorem tBytes_4:zaW Tryz.prog 4=some 1:=by kernel_rfl
theorem tElem_4:zaK Tryz.prog 4=none:=by kernel_rfl
theorem tStr_4:tStr Tryz.prog 4=false:=by kernel_rfl
theorem tInt_4:tInt Tryz.prog 4=none:=by kernel_rfl
theorem tUnd_4:((Tryz.prog.underlying 4).isSome=true):=by kernel_rfl
theorem tBool_4:Tryz.prog.underlying 4=some .bool:=by kernel_rfl
theorem tzo_4:tzo Tryz.prog 4=some (.atom (.bool false)):=by kernel_rfl
theorem tAgg_5:tAgg Tryz.prog 5=some false:=by kernel_rfl
theorem tSize_5:zaL Tryz.prog 5=some 1:=by kernel_rfl
theorem tBytes_5:zaW Tryz.prog 5=some 1:=by kernel_rfl
theorem tElem_5:zaK Tryz.prog 5=none:=by kernel_rfl
theorem tStr_5:tStr Tryz.prog 5=false:=by kernel_rfl
theorem tInt_5:tInt Tryz.prog 5=some .u8:=by kernel_rfl
theorem tUnd_5:((Tryz.prog.underlying 5).isSome=true):=by kernel_rfl
theorem tzo_5:tzo Tryz.prog 5=some (.atom (.int .u8 0)):=by kernel_rfl
theorem tAgg_9:tAgg Tryz.prog 9=some false:=by kernel_rfl
theorem tSize_9:zaL Tryz.prog 9=some 1:=by kernel_rfl
theorem tBytes_9:zaW Tryz.prog 9=some 16:=by kernel_rfl
theorem tElem_9:zaK Tryz.prog 9=none:=by kernel_rfl
theorem tStr_9:tStr Tryz.prog 9=true:=by kernel_rfl
theorem tInt_9:tInt Tryz.prog 9=none:=by kernel_rfl
theorem tUnd_9:((Tryz.prog.underlying 9).isSome=true):=by kernel_rfl
theorem tzo_9:tzo Tryz.prog 9=some (.atom (.string ⟨#[]⟩)):=by kernel_rfl
theorem tAgg_22:tAgg Tryz.prog 22=some false:=by kernel_rfl
theorem tSize_22:zaL Tryz.prog 22=some 1:=by kernel_rfl
theorem zqw:zaW Tryz.prog 22=some 24:=by kernel_rfl
theorem tElem_22:zaK Tryz.prog 22=some 3:=by kernel_rfl
theorem tStr_22:tStr Tryz.prog 22=false:=by kernel_rfl
theorem tInt_22:tInt Tryz.prog 22=none:=by kernel_rfl
theorem tzo_22:tzo Tryz.prog 22=some (.atom (.slice none 0 0)):=by kernel_rfl
theorem tAgg_23:tAgg Tryz.prog 23=some false:=by kernel_rfl
theorem tSize_23:zaL Tryz.prog 23=some 1:=by kernel_rfl
theorem zqv:zaW Tryz.prog 23=some 24:=by kernel_rfl
theorem tElem_23:zaK Tryz.prog 23=some 73:=by kernel_rfl
theorem tStr_23:tStr Tryz.prog 23=false:=by kernel_rfl
theorem tInt_23:tInt Tryz.prog 23=none:=by kernel_rfl
theorem tzo_23:tzo Tryz.prog 23=some (.atom (.slice none 0 0)):=by kernel_rfl
theorem tAgg_24:tAgg Tryz.prog 24=some false:=by kernel_rfl
theorem tSize_24:zaL Tryz.prog 24=some 1:=by kernel_rfl
theorem zqu:zaW Tryz.prog 24=some 24:=by kernel_rfl
theorem tElem_24:zaK Tryz.prog 24=some 90:=by kernel_rfl
theorem tStr_24:tStr Tryz.prog 24=false:=by kernel_rfl
theorem tInt_24:tInt Tryz.prog 24=none:=by kernel_rfl
theorem tzo_24:tzo Tryz.prog 24=some (.atom (.slice none 0 0)):=by kernel_rfl
theorem tAgg_25:tAgg Tryz.prog 25=some false:=by kernel_rfl
theorem tSize_25:zaL Tryz.prog 25=some 1:=by kernel_rfl
theorem zqt:zaW Tryz.prog 25=some 24:=by kernel_rfl
theorem tElem_25:zaK Tryz.prog 25=some 91:=by kernel_rfl
theorem tStr_25:tStr Tryz.prog 25=false:=by kernel_rfl
theorem tInt_25:tInt Tryz.prog 25=none:=by kernel_rfl
theorem tzo_25:tzo Tryz.prog 25=some (.atom (.slice none 0 0)):=by kernel_rfl
theorem tAgg_27:tAgg Tryz.prog 27=some true:=by kernel_rfl
theorem tSize_27:zaL Tryz.prog 27=some 3:=by kernel_rfl
theorem zqs:zaW Tryz.prog 27=some 72:=by kernel_rfl
theorem tElem_27:zaK Tryz.prog 27=none:=by kernel_rfl
theorem tStr_27:tStr Tryz.prog 27=false:=by kernel_rfl
theorem tInt_27:tInt Tryz.prog 27=none:=by kernel_rfl
theorem zpQ:tFld Tryz.prog 27 0=some (0,23):=by kernel_rfl
theorem zk2:za6 Tryz.prog 27 0=some (0,1):=by kernel_rfl
theorem zpP:tFld Tryz.prog 27 1=some (1,24):=by kernel_rfl
theorem zk1:za6 Tryz.prog 27 1=some (1,1):=by kernel_rfl
theorem zpO:tFld Tryz.prog 27 2=some (2,25):=by kernel_rfl
theorem zk0:za6 Tryz.prog 27 2=some (2,1):=by kernel_rfl
theorem zpm:zcD Tryz.prog 27=true:=by kernel_rfl
theorem tzo_27:tzo Tryz.prog 27=some (.agg [.atom (.slice none 0 0),.atom (.slice none 0 0),.atom (.slice none 0 0)]):=by kernel_rfl
theorem tAgg_28:tAgg Tryz.prog 28=some false:=by kernel_rfl
theorem tSize_28:zaL Tryz.prog 28=some 1:=by kernel_rfl
theorem zqr:zaW Tryz.prog 28=some 24:=by kernel_rfl
theorem tElem_28:zaK Tryz.prog 28=some 76:=by kernel_rfl
theorem tStr_28:tStr Tryz.prog 28=false:=by kernel_rfl
theorem tInt_28:tInt Tryz.prog 28=none:=by kernel_rfl
theorem tzo_28:tzo Tryz.prog 28=some (.atom (.slice none 0 0)):=by kernel_rfl
theorem tAgg_29:tAgg Tryz.prog 29=some false:=by kernel_rfl
theorem tSize_29:zaL Tryz.prog 29=some 1:=by kernel_rfl
theorem zqq:zaW Tryz.prog 29=some 24:=by kernel_rfl
theorem tElem_29:zaK Tryz.prog 29=some 87:=by kernel_rfl
theorem tStr_29:tStr Tryz.prog 29=false:=by kernel_rfl
theorem tInt_29:tInt Tryz.prog 29=none:=by kernel_rfl
theorem tzo_29:tzo Tryz.prog 29=some (.atom (.slice none 0 0)):=by kernel_rfl
theorem tAgg_30:tAgg Tryz.prog 30=some false:=by kernel_rfl
theorem tSize_30:zaL Tryz.prog 30=some 1:=by kernel_rfl
theorem zqp:zaW Tryz.prog 30=some 24:=by kernel_rfl
theorem tElem_30:zaK Tryz.prog 30=some 89:=by kernel_rfl
theorem tStr_30:tStr Tryz.prog 30=false:=by kernel_rfl
theorem tInt_30:tInt Tryz.prog 30=none:=by kernel_rfl
theorem tzo_30:tzo Tryz.prog 30=some (.atom (.slice none 0 0)):=by kernel_rfl
theorem tAgg_32:tAgg Tryz.prog 32=some true:=by kernel_rfl
theorem tSize_32:zaL Tryz.prog 32=some 3:=by kernel_rfl
theorem zqo:zaW Tryz.prog 32=some 72:=by kernel_rfl
theorem tElem_32:zaK Tryz.prog 32=none:=by kernel_rfl
theorem tStr_32:tStr Tryz.prog 32=false:=by kernel_rfl
theorem tInt_32:tInt Tryz.prog 32=none:=by kernel_rfl
theorem zpN:tFld Tryz.prog 32 0=some (0,28):=by kernel_rfl
theorem zkZ:za6 Tryz.prog 32 0=some (0,1):=by kernel_rfl
theorem zpM:tFld Tryz.prog 32 1=some (1,29):=by kernel_rfl
theorem zkY:za6 Tryz.prog 32 1=some (1,1):=by kernel_rfl
theorem zpL:tFld Tryz.prog 32 2=some (2,30):=by kernel_rfl
theorem zkX:za6 Tryz.prog 32 2=some (2,1):=by kernel_rfl
theorem zpl:zcD Tryz.prog 32=true:=by kernel_rfl
theorem tzo_32:tzo Tryz.prog 32=some (.agg [.atom (.slice none 0 0),.atom (.slice none 0 0),.atom (.slice none 0 0)]):=by kernel_rfl
theorem tAgg_35:tAgg Tryz.prog 35=some false:=by kernel_rfl
theorem tSize_35:zaL Tryz.prog 35=some 1:=by kernel_rfl
theorem zqn:zaW Tryz.prog 35=some 24:=by kernel_rfl
theorem tElem_35:zaK Tryz.prog 35=some 32:=by kernel_rfl
theorem tStr_35:tStr Tryz.prog 35=false:=by kernel_rfl
theorem tInt_35:tInt Tryz.prog 35=none:=by kernel_rfl
theorem tzo_35:tzo Tryz.prog 35=some (.atom (.slice none 0 0)):=by kernel_rfl
theorem tAgg_37:tAgg Tryz.prog 37=some false:=by kernel_rfl
theorem tSize_37:zaL Tryz.prog 37=some 1:=by kernel_rfl
theorem zqm:zaW Tryz.prog 37=some 24:=by kernel_rfl
theorem tElem_37:zaK Tryz.prog 37=some 9:=by kernel_rfl
theorem tStr_37:tStr Tryz.prog 37=false:=by kernel_rfl
theorem tInt_37:tInt Tryz.prog 37=none:=by kernel_rfl
theorem tzo_37:tzo Tryz.prog 37=some (.atom (.slice none 0 0)):=by kernel_rfl
theorem tAgg_40:tAgg Tryz.prog 40=some false:=by kernel_rfl
theorem tSize_40:zaL Tryz.prog 40=some 1:=by kernel_rfl
theorem zql:zaW Tryz.prog 40=some 8:=by kernel_rfl
theorem tElem_40:zaK Tryz.prog 40=none:=by kernel_rfl
theorem tStr_40:tStr Tryz.prog 40=false:=by kernel_rfl
theorem tInt_40:tInt Tryz.prog 40=some .i64:=by kernel_rfl
theorem tUnd_40:((Tryz.prog.underlying 40).isSome=true):=by kernel_rfl
theorem tzo_40:tzo Tryz.prog 40=some (.atom (.int .i64 0)):=by kernel_rfl
theorem tAgg_52:tAgg Tryz.prog 52=some false:=by kernel_rfl
theorem tSize_52:zaL Tryz.prog 52=some 1:=by kernel_rfl
theorem zqk:zaW Tryz.prog 52=some 24:=by kernel_rfl
theorem tElem_52:zaK Tryz.prog 52=some 109:=by kernel_rfl
theorem tStr_52:tStr Tryz.prog 52=false:=by kernel_rfl
theorem tInt_52:tInt Tryz.prog 52=none:=by kernel_rfl
theorem tzo_52:tzo Tryz.prog 52=some (.atom (.slice none 0 0)):=by kernel_rfl
theorem tAgg_54:tAgg Tryz.prog 54=some true:=by kernel_rfl
theorem tSize_54:zaL Tryz.prog 54=some 4:=by kernel_rfl
theorem zqj:zaW Tryz.prog 54=some 64:=by kernel_rfl
theorem tElem_54:zaK Tryz.prog 54=none:=by kernel_rfl
theorem tStr_54:tStr Tryz.prog 54=false:=by kernel_rfl
theorem tInt_54:tInt Tryz.prog 54=none:=by kernel_rfl
theorem zpK:tFld Tryz.prog 54 0=some (0,3):=by kernel_rfl
theorem zkW:za6 Tryz.prog 54 0=some (0,1):=by kernel_rfl
theorem zpJ:tFld Tryz.prog 54 1=some (1,3):=by kernel_rfl
theorem zkV:za6 Tryz.prog 54 1=some (1,1):=by kernel_rfl
theorem zpI:tFld Tryz.prog 54 2=some (2,22):=by kernel_rfl
theorem zkU:za6 Tryz.prog 54 2=some (2,1):=by kernel_rfl
theorem zpH:tFld Tryz.prog 54 3=some (3,52):=by kernel_rfl
theorem zkT:za6 Tryz.prog 54 3=some (3,1):=by kernel_rfl
theorem zpk:zcD Tryz.prog 54=true:=by kernel_rfl
theorem tzo_54:tzo Tryz.prog 54=some (.agg [.atom (.int .i64 0),.atom (.int .i64 0),.atom (.slice none 0 0),.atom (.slice none 0 0)]):=by kernel_rfl
theorem tAgg_63:tAgg Tryz.prog 63=some false:=by kernel_rfl
theorem tSize_63:zaL Tryz.prog 63=some 1:=by kernel_rfl
theorem zqi:zaW Tryz.prog 63=some 24:=by kernel_rfl
theorem tElem_63:zaK Tryz.prog 63=some 37:=by kernel_rfl
theorem tStr_63:tStr Tryz.prog 63=false:=by kernel_rfl
theorem tInt_63:tInt Tryz.prog 63=none:=by kernel_rfl
theorem tzo_63:tzo Tryz.prog 63=some (.atom (.slice none 0 0)):=by kernel_rfl
theorem tAgg_73:tAgg Tryz.prog 73=some true:=by kernel_rfl
theorem tSize_73:zaL Tryz.prog 73=some 3:=by kernel_rfl
theorem zqh:zaW Tryz.prog 73=some 48:=by kernel_rfl
theorem tElem_73:zaK Tryz.prog 73=none:=by kernel_rfl
theorem tStr_73:tStr Tryz.prog 73=false:=by kernel_rfl
theorem tInt_73:tInt Tryz.prog 73=none:=by kernel_rfl
theorem zpG:tFld Tryz.prog 73 0=some (0,9):=by kernel_rfl
theorem zkS:za6 Tryz.prog 73 0=some (0,1):=by kernel_rfl
theorem zpF:tFld Tryz.prog 73 1=some (1,9):=by kernel_rfl
theorem zkR:za6 Tryz.prog 73 1=some (1,1):=by kernel_rfl
theorem zpE:tFld Tryz.prog 73 2=some (2,9):=by kernel_rfl
theorem zkQ:za6 Tryz.prog 73 2=some (2,1):=by kernel_rfl
theorem zpj:zcD Tryz.prog 73=true:=by kernel_rfl
theorem tArr_73:tArr Tryz.prog 73=none:=by kernel_rfl
theorem tFlat_73:zha Tryz.prog 73=some [0,0,0]:=by kernel_rfl
theorem tzo_73:tzo Tryz.prog 73=some (.agg [.atom (.string ⟨#[]⟩),.atom (.string ⟨#[]⟩),.atom (.string ⟨#[]⟩)]):=by kernel_rfl
theorem tAgg_76:tAgg Tryz.prog 76=some true:=by kernel_rfl
theorem tSize_76:zaL Tryz.prog 76=some 3:=by kernel_rfl
theorem zqg:zaW Tryz.prog 76=some 48:=by kernel_rfl
theorem tElem_76:zaK Tryz.prog 76=none:=by kernel_rfl
theorem tStr_76:tStr Tryz.prog 76=false:=by kernel_rfl
theorem tInt_76:tInt Tryz.prog 76=none:=by kernel_rfl
theorem zpD:tFld Tryz.prog 76 0=some (0,9):=by kernel_rfl
theorem zkP:za6 Tryz.prog 76 0=some (0,1):=by kernel_rfl
theorem zpC:tFld Tryz.prog 76 1=some (1,9):=by kernel_rfl
theorem zkO:za6 Tryz.prog 76 1=some (1,1):=by kernel_rfl
theorem zpB:tFld Tryz.prog 76 2=some (2,9):=by kernel_rfl
theorem zkN:za6 Tryz.prog 76 2=some (2,1):=by kernel_rfl
theorem zpi:zcD Tryz.prog 76=true:=by kernel_rfl
theorem tArr_76:tArr Tryz.prog 76=none:=by kernel_rfl
theorem tFlat_76:zha Tryz.prog 76=some [0,0,0]:=by kernel_rfl
theorem tzo_76:tzo Tryz.prog 76=some (.agg [.atom (.string ⟨#[]⟩),.atom (.string ⟨#[]⟩),.atom (.string ⟨#[]⟩)]):=by kernel_rfl
theorem tAgg_87:tAgg Tryz.prog 87=some true:=by kernel_rfl
theorem tSize_87:zaL Tryz.prog 87=some 4:=by kernel_rfl
theorem zqf:zaW Tryz.prog 87=some 56:=by kernel_rfl
theorem tElem_87:zaK Tryz.prog 87=none:=by kernel_rfl
theorem tStr_87:tStr Tryz.prog 87=false:=by kernel_rfl
theorem tInt_87:tInt Tryz.prog 87=none:=by kernel_rfl
theorem zpA:tFld Tryz.prog 87 0=some (0,9):=by kernel_rfl
theorem zkM:za6 Tryz.prog 87 0=some (0,1):=by kernel_rfl
theorem zpz:tFld Tryz.prog 87 1=some (1,9):=by kernel_rfl
theorem zkL:za6 Tryz.prog 87 1=some (1,1):=by kernel_rfl
theorem zpy:tFld Tryz.prog 87 2=some (2,9):=by kernel_rfl
theorem zkK:za6 Tryz.prog 87 2=some (2,1):=by kernel_rfl
theorem zpx:tFld Tryz.prog 87 3=some (3,3):=by kernel_rfl
theorem zkJ:za6 Tryz.prog 87 3=some (3,1):=by kernel_rfl
theorem zph:zcD Tryz.prog 87=true:=by kernel_rfl
theorem tArr_87:tArr Tryz.prog 87=none:=by kernel_rfl
theorem tFlat_87:zha Tryz.prog 87=some [0,0,0,2]:=by kernel_rfl
theorem tzo_87:tzo Tryz.prog 87=some (.agg [.atom (.string ⟨#[]⟩),.atom (.string ⟨#[]⟩),.atom (.string ⟨#[]⟩),.atom (.int .i64 0)]):=by kernel_rfl
theorem tAgg_89:tAgg Tryz.prog 89=some true:=by kernel_rfl
theorem tSize_89:zaL Tryz.prog 89=some 3:=by kernel_rfl
theorem zqe:zaW Tryz.prog 89=some 48:=by kernel_rfl
theorem tElem_89:zaK Tryz.prog 89=none:=by kernel_rfl
theorem tStr_89:tStr Tryz.prog 89=false:=by kernel_rfl
theorem tInt_89:tInt Tryz.prog 89=none:=by kernel_rfl
theorem zpw:tFld Tryz.prog 89 0=some (0,9):=by kernel_rfl
theorem zkI:za6 Tryz.prog 89 0=some (0,1):=by kernel_rfl
theorem zpv:tFld Tryz.prog 89 1=some (1,9):=by kernel_rfl
theorem zkH:za6 Tryz.prog 89 1=some (1,1):=by kernel_rfl
theorem zpu:tFld Tryz.prog 89 2=some (2,9):=by kernel_rfl
theorem zkG:za6 Tryz.prog 89 2=some (2,1):=by kernel_rfl
theorem zpg:zcD Tryz.prog 89=true:=by kernel_rfl
theorem tArr_89:tArr Tryz.prog 89=none:=by kernel_rfl
theorem tFlat_89:zha Tryz.prog 89=some [0,0,0]:=by kernel_rfl
theorem tzo_89:tzo Tryz.prog 89=some (.agg [.atom (.string ⟨#[]⟩),.atom (.string ⟨#[]⟩),.atom (.string ⟨#[]⟩)]):=by kernel_rfl
theorem tAgg_90:tAgg Tryz.prog 90=some true:=by kernel_rfl
theorem tSize_90:zaL Tryz.prog 90=some 4:=by kernel_rfl
theorem zqd:zaW Tryz.prog 90=some 56:=by kernel_rfl
theorem tElem_90:zaK Tryz.prog 90=none:=by kernel_rfl
theorem tStr_90:tStr Tryz.prog 90=false:=by kernel_rfl
theorem tInt_90:tInt Tryz.prog 90=none:=by kernel_rfl
theorem zpt:tFld Tryz.prog 90 0=some (0,9):=by kernel_rfl
theorem zkF:za6 Tryz.prog 90 0=some (0,1):=by kernel_rfl
theorem zps:tFld Tryz.prog 90 1=some (1,9):=by kernel_rfl
theorem zkE:za6 Tryz.prog 90 1=some (1,1):=by kernel_rfl
theorem zpr:tFld Tryz.prog 90 2=some (2,9):=by kernel_rfl
theorem zkD:za6 Tryz.prog 90 2=some (2,1):=by kernel_rfl
theorem zpq:tFld Tryz.prog 90 3=some (3,3):=by kernel_rfl
theorem zkC:za6 Tryz.prog 90 3=some (3,1):=by kernel_rfl
theorem zpf:zcD Tryz.prog 90=true:=by kernel_rfl
theorem tArr_90:tArr Tryz.prog 90=none:=by kernel_rfl
theorem tFlat_90:zha Tryz.prog 90=some [0,0,0,2]:=by kernel_rfl
theorem tzo_90:tzo Tryz.prog 90=some (.agg [.atom (.string ⟨#[]⟩),.atom (.string ⟨#[]⟩),.atom (.string ⟨#[]⟩),.atom (.int .i64 0)]):=by kernel_rfl
theorem tAgg_91:tAgg Tryz.prog 91=some true:=by kernel_rfl
theorem tSize_91:zaL Tryz.prog 91=some 3:=by kernel_rfl
theorem zqc:zaW Tryz.prog 91=some 48:=by kernel_rfl
theorem tElem_91:zaK Tryz.prog 91=none:=by kernel_rfl
theorem tStr_91:tStr Tryz.prog 91=false:=by kernel_rfl
theorem tInt_91:tInt Tryz.prog 91=none:=by kernel_rfl
theorem zpp:tFld Tryz.prog 91 0=some (0,9):=by kernel_rfl
theorem zkB:za6 Tryz.prog 91 0=some (0,1):=by kernel_rfl
theorem zpo:tFld Tryz.prog 91 1=some (1,9):=by kernel_rfl
theorem zkA:za6 Tryz.prog 91 1=some (1,1):=by kernel_rfl
theorem zpn:tFld Tryz.prog 91 2=some (2,9):=by kernel_rfl
theorem zkz:za6 Tryz.prog 91 2=some (2,1):=by kernel_rfl
theorem zpe:zcD Tryz.prog 91=true:=by kernel_rfl
theorem tArr_91:tArr Tryz.prog 91=none:=by kernel_rfl
theorem tFlat_91:zha Tryz.prog 91=some [0,0,0]:=by kernel_rfl
theorem tzo_91:tzo Tryz.prog 91=some (.agg [.atom (.string ⟨#[]⟩),.atom (.string ⟨#[]⟩),.atom (.string ⟨#[]⟩)]):=by kernel_rfl
theorem tAgg_93:tAgg Tryz.prog 93=some false:=by kernel_rfl
theorem tSize_93:zaL Tryz.prog 93=some 1:=by kernel_rfl
theorem zqb:zaW Tryz.prog 93=some 8:=by kernel_rfl
theorem tElem_93:zaK Tryz.prog 93=none:=by kernel_rfl
theorem tStr_93:tStr Tryz.prog 93=false:=by kernel_rfl
theorem tInt_93:tInt Tryz.prog 93=none:=by kernel_rfl
theorem tzo_93:tzo Tryz.prog 93=some (.atom (.nilFunc)):=by kernel_rfl
theorem tAgg_109:tAgg Tryz.prog 109=some true:=by kernel_rfl
theorem zpd:zaL Tryz.prog 109=some 4:=by kernel_rfl
theorem znB:zaW Tryz.prog 109=some 48:=by kernel_rfl
theorem zqa:zaK Tryz.prog 109=none:=by kernel_rfl
theorem tStr_109:tStr Tryz.prog 109=false:=by kernel_rfl
theorem tInt_109:tInt Tryz.prog 109=none:=by kernel_rfl
theorem zni:tFld Tryz.prog 109 0=some (0,3):=by kernel_rfl
theorem zi7:za6 Tryz.prog 109 0=some (0,1):=by kernel_rfl
theorem znh:tFld Tryz.prog 109 1=some (1,3):=by kernel_rfl
theorem zi6:za6 Tryz.prog 109 1=some (1,1):=by kernel_rfl
theorem zng:tFld Tryz.prog 109 2=some (2,9):=by kernel_rfl
theorem zi5:za6 Tryz.prog 109 2=some (2,1):=by kernel_rfl
theorem znf:tFld Tryz.prog 109 3=some (3,9):=by kernel_rfl
theorem zi4:za6 Tryz.prog 109 3=some (3,1):=by kernel_rfl
theorem zna:zcD Tryz.prog 109=true:=by kernel_rfl
theorem tArr_109:tArr Tryz.prog 109=none:=by kernel_rfl
theorem zpR:zha Tryz.prog 109=some [2,2,0,0]:=by kernel_rfl
theorem tzo_109:tzo Tryz.prog 109=some (.agg [.atom (.int .i64 0),.atom (.int .i64 0),.atom (.string ⟨#[]⟩),.atom (.string ⟨#[]⟩)]):=by kernel_rfl
theorem tAgg_110:tAgg Tryz.prog 110=some false:=by kernel_rfl
theorem zpc:zaL Tryz.prog 110=some 1:=by kernel_rfl
theorem znA:zaW Tryz.prog 110=some 24:=by kernel_rfl
theorem zp9:zaK Tryz.prog 110=some 22:=by kernel_rfl
theorem tStr_110:tStr Tryz.prog 110=false:=by kernel_rfl
theorem tInt_110:tInt Tryz.prog 110=none:=by kernel_rfl
theorem tzo_110:tzo Tryz.prog 110=some (.atom (.slice none 0 0)):=by kernel_rfl
theorem tAgg_112:tAgg Tryz.prog 112=some false:=by kernel_rfl
theorem zpb:zaL Tryz.prog 112=some 1:=by kernel_rfl
theorem znz:zaW Tryz.prog 112=some 8:=by kernel_rfl
theorem zp8:zaK Tryz.prog 112=none:=by kernel_rfl
theorem tStr_112:tStr Tryz.prog 112=false:=by kernel_rfl
theorem tInt_112:tInt Tryz.prog 112=none:=by kernel_rfl
theorem tMap_112:tMap Tryz.prog 112=some (115,114):=by kernel_rfl
theorem tzo_112:tzo Tryz.prog 112=some (.atom (.map none)):=by kernel_rfl
theorem tAgg_113:tAgg Tryz.prog 113=some false:=by kernel_rfl
theorem zpa:zaL Tryz.prog 113=some 1:=by kernel_rfl
theorem zny:zaW Tryz.prog 113=some 8:=by kernel_rfl
theorem zp7:zaK Tryz.prog 113=none:=by kernel_rfl
theorem tStr_113:tStr Tryz.prog 113=false:=by kernel_rfl
theorem tInt_113:tInt Tryz.prog 113=none:=by kernel_rfl
theorem tzo_113:tzo Tryz.prog 113=some (.atom (.nilFunc)):=by kernel_rfl
theorem tAgg_114:tAgg Tryz.prog 114=some false:=by kernel_rfl
theorem zo9:zaL Tryz.prog 114=some 1:=by kernel_rfl
theorem znx:zaW Tryz.prog 114=some 8:=by kernel_rfl
theorem zp6:zaK Tryz.prog 114=none:=by kernel_rfl
theorem tStr_114:tStr Tryz.prog 114=false:=by kernel_rfl
theorem tInt_114:tInt Tryz.prog 114=none:=by kernel_rfl
theorem tzo_114:tzo Tryz.prog 114=some (.atom (.pointer none)):=by kernel_rfl
theorem tAgg_115:tAgg Tryz.prog 115=some true:=by kernel_rfl
theorem zo8:zaL Tryz.prog 115=some 2:=by kernel_rfl
theorem znw:zaW Tryz.prog 115=some 16:=by kernel_rfl
theorem zp5:zaK Tryz.prog 115=none:=by kernel_rfl
theorem tStr_115:tStr Tryz.prog 115=false:=by kernel_rfl
theorem tInt_115:tInt Tryz.prog 115=none:=by kernel_rfl
theorem tArr_115:tArr Tryz.prog 115=some (2,3):=by kernel_rfl
theorem zm6 (i:Nat):za6 Tryz.prog 115 i=some (i * 1,1):=by rfl
theorem zm9:zcD Tryz.prog 115=true:=by kernel_rfl
theorem tEqG_115:Tryz.prog.eqGuardType Tryz.prog.depth 115=false:=by kernel_rfl
theorem tzo_115:tzo Tryz.prog 115=some (.agg [.atom (.int .i64 0),.atom (.int .i64 0)]):=by kernel_rfl
theorem tAgg_117:tAgg Tryz.prog 117=some false:=by kernel_rfl
theorem zo7:zaL Tryz.prog 117=some 1:=by kernel_rfl
theorem znv:zaW Tryz.prog 117=some 8:=by kernel_rfl
theorem zp4:zaK Tryz.prog 117=none:=by kernel_rfl
theorem tStr_117:tStr Tryz.prog 117=false:=by kernel_rfl
theorem tInt_117:tInt Tryz.prog 117=none:=by kernel_rfl
theorem tMap_117:tMap Tryz.prog 117=some (9,4):=by kernel_rfl
theorem tzo_117:tzo Tryz.prog 117=some (.atom (.map none)):=by kernel_rfl
theorem tAgg_119:tAgg Tryz.prog 119=some true:=by kernel_rfl
theorem zo6:zaL Tryz.prog 119=some 2:=by kernel_rfl
theorem znu:zaW Tryz.prog 119=some 16:=by kernel_rfl
theorem zp3:zaK Tryz.prog 119=none:=by kernel_rfl
theorem tStr_119:tStr Tryz.prog 119=false:=by kernel_rfl
theorem tInt_119:tInt Tryz.prog 119=none:=by kernel_rfl
theorem zne:tFld Tryz.prog 119 0=some (0,117):=by kernel_rfl
theorem zi3:za6 Tryz.prog 119 0=some (0,1):=by kernel_rfl
theorem znd:tFld Tryz.prog 119 1=some (1,4):=by kernel_rfl
theorem zi2:za6 Tryz.prog 119 1=some (1,1):=by kernel_rfl
theorem zm8:zcD Tryz.prog 119=true:=by kernel_rfl
theorem tzo_119:tzo Tryz.prog 119=some (.agg [.atom (.map none),.atom (.bool false)]):=by kernel_rfl
theorem tAgg_125:tAgg Tryz.prog 125=some false:=by kernel_rfl
theorem zo5:zaL Tryz.prog 125=some 1:=by kernel_rfl
theorem znt:zaW Tryz.prog 125=some 8:=by kernel_rfl
theorem zp2:zaK Tryz.prog 125=none:=by kernel_rfl
theorem tStr_125:tStr Tryz.prog 125=false:=by kernel_rfl
theorem tInt_125:tInt Tryz.prog 125=none:=by kernel_rfl
theorem tzo_125:tzo Tryz.prog 125=some (.atom (.pointer none)):=by kernel_rfl
theorem tAgg_142:tAgg Tryz.prog 142=some false:=by kernel_rfl
theorem zo4:zaL Tryz.prog 142=some 1:=by kernel_rfl
theorem zns:zaW Tryz.prog 142=some 8:=by kernel_rfl
theorem zp1:zaK Tryz.prog 142=none:=by kernel_rfl
theorem tStr_142:tStr Tryz.prog 142=false:=by kernel_rfl
theorem tInt_142:tInt Tryz.prog 142=none:=by kernel_rfl
theorem tzo_142:tzo Tryz.prog 142=some (.atom (.nilFunc)):=by kernel_rfl
theorem tAgg_146:tAgg Tryz.prog 146=some false:=by kernel_rfl
theorem zo3:zaL Tryz.prog 146=some 1:=by kernel_rfl
theorem znr:zaW Tryz.prog 146=some 8:=by kernel_rfl
theorem zp0:zaK Tryz.prog 146=none:=by kernel_rfl
theorem tStr_146:tStr Tryz.prog 146=false:=by kernel_rfl
theorem tInt_146:tInt Tryz.prog 146=some .u64:=by kernel_rfl
theorem tUnd_146:((Tryz.prog.underlying 146).isSome=true):=by kernel_rfl
theorem tzo_146:tzo Tryz.prog 146=some (.atom (.int .u64 0)):=by kernel_rfl
theorem tAgg_150:tAgg Tryz.prog 150=some false:=by kernel_rfl
theorem zo2:zaL Tryz.prog 150=some 1:=by kernel_rfl
theorem znq:zaW Tryz.prog 150=some 8:=by kernel_rfl
theorem zpZ:zaK Tryz.prog 150=none:=by kernel_rfl
theorem tStr_150:tStr Tryz.prog 150=false:=by kernel_rfl
theorem tInt_150:tInt Tryz.prog 150=none:=by kernel_rfl
theorem tMap_150:tMap Tryz.prog 150=some (9,23):=by kernel_rfl
theorem tzo_150:tzo Tryz.prog 150=some (.atom (.map none)):=by kernel_rfl
theorem tAgg_152:tAgg Tryz.prog 152=some true:=by kernel_rfl
theorem zo1:zaL Tryz.prog 152=some 4:=by kernel_rfl
theorem znp:zaW Tryz.prog 152=some 80:=by kernel_rfl
theorem zpY:zaK Tryz.prog 152=none:=by kernel_rfl
theorem tStr_152:tStr Tryz.prog 152=false:=by kernel_rfl
theorem tInt_152:tInt Tryz.prog 152=none:=by kernel_rfl
theorem znc:tFld Tryz.prog 152 0=some (0,27):=by kernel_rfl
theorem zi1:za6 Tryz.prog 152 0=some (0,3):=by kernel_rfl
theorem znb:tFld Tryz.prog 152 1=some (3,150):=by kernel_rfl
theorem zi0:za6 Tryz.prog 152 1=some (3,1):=by kernel_rfl
theorem zm7:zcD Tryz.prog 152=true:=by kernel_rfl
theorem tzo_152:tzo Tryz.prog 152=some (.agg [.atom (.slice none 0 0),.atom (.slice none 0 0),.atom (.slice none 0 0),.atom (.map none)]):=by kernel_rfl
theorem tAgg_171:tAgg Tryz.prog 171=some false:=by kernel_rfl
theorem zo0:zaL Tryz.prog 171=some 1:=by kernel_rfl
theorem zno:zaW Tryz.prog 171=some 8:=by kernel_rfl
theorem zpX:zaK Tryz.prog 171=none:=by kernel_rfl
theorem tStr_171:tStr Tryz.prog 171=false:=by kernel_rfl
theorem tInt_171:tInt Tryz.prog 171=some .i64:=by kernel_rfl
theorem tUnd_171:((Tryz.prog.underlying 171).isSome=true):=by kernel_rfl
theorem tzo_171:tzo Tryz.prog 171=some (.atom (.int .i64 0)):=by kernel_rfl
theorem tAgg_178:tAgg Tryz.prog 178=some false:=by kernel_rfl
theorem zoZ:zaL Tryz.prog 178=some 1:=by kernel_rfl
theorem znn:zaW Tryz.prog 178=some 4:=by kernel_rfl
theorem zpW:zaK Tryz.prog 178=none:=by kernel_rfl
theorem tStr_178:tStr Tryz.prog 178=false:=by kernel_rfl
theorem tInt_178:tInt Tryz.prog 178=some .u32:=by kernel_rfl
theorem tUnd_178:((Tryz.prog.underlying 178).isSome=true):=by kernel_rfl
theorem tzo_178:tzo Tryz.prog 178=some (.atom (.int .u32 0)):=by kernel_rfl
theorem tAgg_180:tAgg Tryz.prog 180=some false:=by kernel_rfl
theorem zoY:zaL Tryz.prog 180=some 1:=by kernel_rfl
theorem znm:zaW Tryz.prog 180=some 8:=by kernel_rfl
theorem zpV:zaK Tryz.prog 180=none:=by kernel_rfl
theorem tStr_180:tStr Tryz.prog 180=false:=by kernel_rfl
theorem tInt_180:tInt Tryz.prog 180=some .u64:=by kernel_rfl
theorem tUnd_180:((Tryz.prog.underlying 180).isSome=true):=by kernel_rfl
theorem tzo_180:tzo Tryz.prog 180=some (.atom (.int .u64 0)):=by kernel_rfl
theorem tAgg_183:tAgg Tryz.prog 183=some false:=by kernel_rfl
theorem zoX:zaL Tryz.prog 183=some 1:=by kernel_rfl
theorem znl:zaW Tryz.prog 183=some 8:=by kernel_rfl
theorem zpU:zaK Tryz.prog 183=none:=by kernel_rfl
theorem tStr_183:tStr Tryz.prog 183=false:=by kernel_rfl
theorem tInt_183:tInt Tryz.prog 183=none:=by kernel_rfl
theorem tzo_183:tzo Tryz.prog 183=some (.atom (.nilFunc)):=by kernel_rfl
theorem tAgg_190:tAgg Tryz.prog 190=some false:=by kernel_rfl
theorem zoW:zaL Tryz.prog 190=some 1:=by kernel_rfl
theorem znk:zaW Tryz.prog 190=some 8:=by kernel_rfl
theorem zpT:zaK Tryz.prog 190=none:=by kernel_rfl
theorem tStr_190:tStr Tryz.prog 190=false:=by kernel_rfl
theorem tInt_190:tInt Tryz.prog 190=some .u64:=by kernel_rfl
theorem tUnd_190:((Tryz.prog.underlying 190).isSome=true):=by kernel_rfl
theorem tzo_190:tzo Tryz.prog 190=some (.atom (.int .u64 0)):=by kernel_rfl
theorem tAgg_194:tAgg Tryz.prog 194=some false:=by kernel_rfl
theorem zoV:zaL Tryz.prog 194=some 1:=by kernel_rfl
theorem znj:zaW Tryz.prog 194=some 8:=by kernel_rfl
theorem zpS:zaK Tryz.prog 194=none:=by kernel_rfl
theorem tStr_194:tStr Tryz.prog 194=false:=by kernel_rfl
theorem tInt_194:tInt Tryz.prog 194=none:=by kernel_rfl
theorem tzo_194:tzo Tryz.prog 194=some (.atom (.pointer none)):=by kernel_rfl
theorem zog:PV.junk.flatB=true:=rfl
theorem zoh (v:Value):(PV.atom v).flatB=true:=rfl
theorem flatB_ob (i sz off len:Nat):(PV.ob i sz off len).flatB=true:=rfl
theorem flatB_mp (i:Nat):(PV.mp i).flatB=true:=rfl
theorem zrE (i sz k c:Nat):(PV.ptr i sz k c).flatB=true:=rfl
theorem zrF (l:List PV):(PV.agg l).flatB=zhf l:=by simp only[PV.flatB]
theorem zrC (l:List PV):(PV.tup l).flatB=zhf l:=by simp only[PV.flatB]
theorem flatB_fn (f:FuncId) (l:List PV):(PV.fn f l).flatB=zhf l:=by simp only[PV.flatB]
theorem zrD (sz:Nat):(PV.sl sz []).flatB=true:=rfl
theorem zrB:zhf []=true:=rfl
theorem zof (p:PV) (l:List PV):zhf (p :: l)=(p.flatB && zhf l):=rfl
def encI (n:Int):PV:=.atom (.int .i64 n)
def encS (s:ByteArray):PV:=.atom (.string s)
def ints (l:List Int):PV:=.sl 1 (l.map encI)
def strs (l:List ByteArray):PV:=.sl 1 (l.map encS)
def li (l:List Int) (i:Nat):Int:=l.getD i 0
def ls (l:List ByteArray) (i:Nat):ByteArray:=l.getD i ByteArray.empty
theorem za9{l:List Int}{k:Nat}(h:k<l.length):(l.map encI).getD k .junk=encI (li l k):=by
  simp[li,List.getD_eq_getElem?_getD,h]
theorem zbl{l:List ByteArray}{k:Nat}(h:k<l.length):(l.map encS).getD k .junk=encS (ls l k):=by
  simp[ls,List.getD_eq_getElem?_getD,h]
theorem zbk{α:Type}(f:α→PV) (h:∀x,(f x).pure=true) (l:List α):zan (l.map f)=true:=by
  rw[zbo,List.all_map];exact List.all_eq_true.2 fun x _=>h x
theorem zaj (l:List Int):(ints l).pure=true:=zbk encI (fun _=>rfl) l
theorem zag (l:List ByteArray):(strs l).pure=true:=zbk encS (fun _=>rfl) l
theorem zcd (ρ:Nat→Nat) (l:List Int):(ints l).ren ρ=ints l:=zbj ρ _ (zaj l)
theorem zcb (ρ:Nat→Nat) (l:List ByteArray):(strs l).ren ρ=strs l:=zbj ρ _ (zag l)
theorem zaf{x:Int}(h0 : -9223372036854775808≤x) (h1:x≤9223372036854775807):IntKind.i64.wrap x=x:=by rw[IntKind.wrap_i64];omega
mutual
theorem zjx:∀p:PV,p.pure=true→p.noOb=true
  | .junk,_=>rfl
  | .atom _,_=>rfl
  | .agg l,h=>by simp only[PV.pure] at h;simp only[PV.noOb,zdb l h]
  | .tup l,h=>by simp only[PV.pure] at h;simp only[PV.noOb,zdb l h]
  | .sl _ l,_=>rfl
  | .own _ _,h=>by cases h
  | .ob _ _ _ _,h=>by cases h
  | .ptr _ _ _ _,h=>by cases h
  | .fptr _ l _ _,_=>rfl
  | .fmp _,_=>rfl
  | .mp _,h=>by cases h
  | .it _,h=>by cases h
  | .mark _,h=>by cases h
  | .is _ _,h=>by cases h
  | .amp,_=>rfl
  | .fn _ l,h=>by simp only[PV.pure] at h;simp only[PV.noOb,zdb l h]
theorem zdb:∀l:List PV,zan l=true→zel l=true
  | [],_=>rfl
  | p :: l,h=>by simp only[zan,Bool.and_eq_true] at h;simp only[zel,zjx p h.1,zdb l h.2];rfl
end
theorem zaw (H:Nat→Option AO) (keep:Nat→Bool) (n:Nat) {p:PV}(h:p.pure=true):sealed H keep n p=p:=ze0 H keep n p (zjx p h)
theorem zap (H:Nat→Option AO) (keep:Nat→Bool) (n:Nat) {l:List PV}(h:zan l=true):l.map (sealed H keep n)=l:=zcO H keep n l (zdb l h)
theorem sp{H:Nat→Option AO}{keep:Nat→Bool}{n:Nat}{ρ:Nat→Nat}{p:PV}(h:p.pure=true):sealed H keep n p=p.ren ρ:=(zaw H keep n h).trans (zbj ρ p h).symm
theorem zaT (ρ:Nat→Nat) {l:List PV}(h:zan l=true):l.map (PV.ren ρ)=l:=by
  have:=zbf ρ l h
  rwa [zaZ] at this
theorem zal (a b:List PV):zan (a++b)=(zan a && zan b):=by rw[zbo,zbo,zbo,List.all_append]
theorem zam (l:List Int):zan (l.map encI)=true:=zbk encI (fun _=>rfl) l
theorem zat (l:List ByteArray):zan (l.map encS)=true:=zbk encS (fun _=>rfl) l
theorem zav (l:List (List Int)):zan (l.map ints)=true:=zbk ints zaj l
theorem zau (l:List (List ByteArray)):zan (l.map strs)=true:=zbk strs zag l
theorem zas (H:Nat→Option AO) (keep:Nat→Bool) (n:Nat) (l:List Int):(l.map encI).map (sealed H keep n)=l.map encI:=zap H keep n (zam l)
theorem zar (H:Nat→Option AO) (keep:Nat→Bool) (n:Nat) (l:List ByteArray):(l.map encS).map (sealed H keep n)=l.map encS:=zap H keep n (zat l)
theorem zaq (H:Nat→Option AO) (keep:Nat→Bool) (n:Nat) (l:List (List Int)):(l.map ints).map (sealed H keep n)=l.map ints:=zap H keep n (zav l)
theorem zao (H:Nat→Option AO) (keep:Nat→Bool) (n:Nat) (l:List (List ByteArray)):(l.map strs).map (sealed H keep n)=l.map strs:=zap H keep n (zau l)
theorem zaH (ρ:Nat→Nat) (l:List Int):(l.map encI).map (PV.ren ρ)=l.map encI:=zaT ρ (zam l)
theorem zaG (ρ:Nat→Nat) (l:List ByteArray):(l.map encS).map (PV.ren ρ)=l.map encS:=zaT ρ (zat l)
theorem zaF (ρ:Nat→Nat) (l:List (List Int)):(l.map ints).map (PV.ren ρ)=l.map ints:=zaT ρ (zav l)
theorem zaE (ρ:Nat→Nat) (l:List (List ByteArray)):(l.map strs).map (PV.ren ρ)=l.map strs:=zaT ρ (zau l)
theorem za5 (ρ:Nat→Nat) (l:List Int):renL ρ (l.map encI)=l.map encI:=zbf ρ _ (zam l)
theorem za4 (ρ:Nat→Nat) (l:List ByteArray):renL ρ (l.map encS)=l.map encS:=zbf ρ _ (zat l)
theorem za3 (ρ:Nat→Nat) (l:List (List Int)):renL ρ (l.map ints)=l.map ints:=zbf ρ _ (zav l)
theorem za2 (ρ:Nat→Nat) (l:List (List ByteArray)):renL ρ (l.map strs)=l.map strs:=zbf ρ _ (zau l)
theorem zrz (l:List ByteArray):(l.map encS).all PV.flatB=true:=by rw[List.all_map];exact List.all_eq_true.2 fun _ _=>rfl
theorem one_encI (l:List Int):((l.map encI).all fun q=>q.cells.all PV.one)=true:=by rw[List.all_map];exact List.all_eq_true.2 fun _ _=>rfl
theorem one_encS (l:List ByteArray):((l.map encS).all fun q=>q.cells.all PV.one)=true:=by rw[List.all_map];exact List.all_eq_true.2 fun _ _=>rfl
theorem one_ints (l:List (List Int)):((l.map ints).all fun q=>q.cells.all PV.one)=true:=by rw[List.all_map];exact List.all_eq_true.2 fun _ _=>rfl
theorem one_strs (l:List (List ByteArray)):((l.map strs).all fun q=>q.cells.all PV.one)=true:=by rw[List.all_map];exact List.all_eq_true.2 fun _ _=>rfl
theorem zae{x:Int}(h0:0≤x) (h1:x≤255):IntKind.u8.wrap x=x:=by rw[IntKind.wrap_u8];omega
theorem ResOk.one{S:St}{ts:List Nat}{r:PV}{o o':AO}(i:Nat) (k:Nat) (h0:S.obj i=some o') (hr:sealed S.obj (fun j=>[i].contains j) k (retV S ts)=r.ren (rmap [i] S.nx)) (hs:o'.sz=o.sz)
    (he:o'.els.map (sealed S.obj (fun j=>[i].contains j) k)=o.els.map (PV.ren (rmap [i] S.nx))):ResOk S ts r [o]:=
  ⟨[i],k,rfl,by simp,hr,fun j ob hj=>by
    cases j with
    | zero => obtain rfl:o=ob:=by simpa using hj
              exact⟨o',h0,hs,he⟩
    | succ j=>simp at hj⟩
theorem ResOk.two{S:St}{ts:List Nat}{r:PV}{o o' u u':AO}(i j:Nat) (k:Nat) (hij:i≠j) (h0:S.obj i=some o') (h1:S.obj j=some u') (hr:sealed S.obj (fun x=>[i,j].contains x) k (retV S ts)=r.ren (rmap [i,j] S.nx))
    (hs:o'.sz=o.sz) (hs2:u'.sz=u.sz)
    (he:o'.els.map (sealed S.obj (fun x=>[i,j].contains x) k)=o.els.map (PV.ren (rmap [i,j] S.nx))) (he2:u'.els.map (sealed S.obj (fun x=>[i,j].contains x) k)=u.els.map (PV.ren (rmap [i,j] S.nx))):ResOk S ts r [o,u]:=
  ⟨[i, j], k,rfl,by simp[hij],hr,fun n ob hn=>by
    match n with
    | 0 => obtain rfl:o=ob:=by simpa using hn
           exact⟨o',h0,hs,he⟩
    | 1 => obtain rfl:u=ob:=by simpa using hn
           exact⟨u',h1,hs2,he2⟩
    | n+2=>simp at hn⟩
theorem ResOk.row{S:St}{ts:List Nat}{r:PV}{sz:Nat}{els els':List PV}(i:Nat) (h0:S.obj i=some ⟨sz,els⟩) (he:els=els') (hp:zan els'=true) (hr:sealed S.obj (fun j=>[i].contains j) 4 (retV S ts)=r.ren (rmap [i] S.nx)):ResOk S ts r [⟨sz,els'⟩]:=by
  subst he
  exact ResOk.one i 4 h0 hr rfl (by rw[zap _ _ _ hp,zaT _ hp])
theorem LeqS.row{S:St}{L:List Nat}{i k sz:Nat}{els els':List PV}(h0:S.obj (rmap L S.nx i)=some ⟨sz,els⟩) (he:els=els') (hp:zan els'=true):
    ∃o',S.obj (rmap L S.nx i)=some o'∧o'.sz=(AO.mk sz els').sz∧o'.els.map (sealed S.obj (fun i=>L.contains i) k)=(AO.mk sz els').els.map (PV.ren (rmap L S.nx)):=
  ⟨_,h0,rfl,by subst he;show els.map _=els.map _;rw[zap _ _ _ hp,zaT _ hp]⟩
@[congr] theorem Tri.congr {P:Program} {n:Nat} {c:Code} {S S':St} {Q:Exit→St→Prop} (h:S=S'):Tri P n c S Q=Tri P n c S' Q:=by rw[h]
def notEnt:PV→Bool
  | .agg _ | .sl _ _ | .ob _ _ _ _ | .ptr _ _ _ _ | .fptr _ _ _ _ | .fn _ _ | .mp _=>true
  | .atom (.tuple _)=>false
  | .atom _=>true
  | _=>false
theorem zjE{D:Nat→Prop}{μ:Nat→Option Nat}{F:Nat→Prop}{w:World}{p:PV}{x:Array Value}(h:notEnt p=true) (hr:Rep D μ F w p (.tuple x)):False:=by
  cases hr<;>cases h
theorem ObjOk.cellsOf{D:Nat→Prop}{μ:Nat→Option Nat}{F:Nat→Prop}{w:World}{b k:Nat}{o:AO}{p:PV}(h:ObjOk D μ F w b o) (hk:o.els[k]? = some p) (hp:notEnt p=true):CellsOk D μ F w b o:=by
  rcases h with h|⟨es,ck,_,_,h3,h4⟩|⟨rem,cur,h1,h2⟩
  · exact h
  · obtain⟨hl,he⟩:=List.getElem?_eq_some_iff.1 hk
    have:=h4 k hl
    rw[he] at this
    exact(zjE hp this).elim
  · rw[h1] at hk
    match k,hk with
    | 0,hk=>cases hk;cases hp
    | 1,hk=>
      cases hk
      rcases h2 with ⟨_,_,_,_,_,_,_,_,_,_,h7⟩|⟨_,_,_,_,_,h7⟩
      · rcases h7 with h7|⟨e,_,_,h7⟩
        · subst h7;cases hp
        · exact(zjE hp h7).elim
      · subst h7;cases hp
    | k+2,hk=>simp at hk
theorem Tri.shuffle{P:Program}{n:Nat}{c:Code}{S:St}{Q:Exit→St→Prop}(d i:Nat) (o:AO) (els':List PV) (hd:S.get d=.mp i) (ho:S.obj i=some o) (hp:o.els.Perm els') (ht:Tri P n c ⟨S.env,(i,some ⟨o.sz,els'⟩) :: S.hp,S.nx,S.gh⟩ Q):Tri P n c S Q:=fun w0 F0 D μ F G a w hS=>by
  refine ht w0 F0 D μ F G a w ⟨hS.defers,hS.size,hS.env,?_,hS.ids,hS.ghl,hS.gh⟩
  have hr:=hS.env d
  rw[hd] at hr
  generalize a.tmps.getD d undef=u at hr
  have e:(St.mk S.env ((i,some ⟨o.sz,els'⟩) :: S.hp) S.nx S.gh).obj=upd S.obj i (some ⟨o.sz,els'⟩):=by
    funext j
    show(lk ((i,_) :: S.hp) j).join=_
    unfold upd
    by_cases hj:i=j
    · rw[lk,if_pos hj,if_pos hj.symm];rfl
    · rw[lk,if_neg hj,if_neg (Ne.symm hj)];rfl
  rw[e]
  cases hr with
  | mp _ b h1 hb hk=>exact hS.heap.shuffle ho hb hk hp
def St.born (S:St) (d sz:Nat):St:=⟨(d,.ob S.nx sz 0 0) :: S.env,(S.nx,some ⟨sz,[]⟩) :: S.hp,S.nx+1,S.gh⟩
theorem zgJ{D:Nat→Prop}{μ:Nat→Option Nat}{F:Nat→Prop}{w:World}{v:Value}(h:Rep D μ F w (.atom (.slice none 0 0)) v):v=.slice none 0 0:=by cases h;rfl
theorem Tri.born{P:Program}{n:Nat}{c:Code}{S:St}{Q:Exit→St→Prop}(d sz:Nat) (h:S.get d=.atom (.slice none 0 0)) (ht:Tri P n c (S.born d sz) Q):Tri P n c S Q:=fun w0 F0 D μ F G a w hS=>by
  have hn:¬D S.nx:=fun hd=>Nat.lt_irrefl _ (hS.ids _ hd)
  have hold:=zeC (D:=D) (μ:=μ) (none:Option Nat) hn
  refine ht w0 F0 (also D S.nx) (upd μ S.nx none) F G a w ⟨hS.defers,hS.size,fun s=>?_,?_,fun i hi=>?_,hS.ghl,fun i hi=>?_⟩
  · show Rep _ _ _ _ ((lk ((d,.ob S.nx sz 0 0) :: S.env) s).getD .junk) _
    unfold lk
    split
    · rename_i hs
      subst hs
      have:=hS.env d
      rw[h] at this
      rw[zgJ this]
      exact .obn S.nx sz (.inr rfl) (zbe ..)
    · exact(hS.env s).stay (Stay.refl _ _) hold (fun _ h=>h)
  · have:=HeapSim.add hS.heap S.nx hn ⟨sz,[]⟩ none (Stay.refl _ _) hS.heap.ext (Nat.le_refl _) rfl (fun b hb=>by cases hb) (fun _ _ _ _ _=>rfl)
    have e:(S.born d sz).obj=upd S.obj S.nx (some ⟨sz,[]⟩):=by
      funext i
      show(lk ((S.nx,some ⟨sz,[]⟩) :: S.hp) i).join=_
      unfold lk upd
      by_cases hi:S.nx=i
      · rw[if_pos hi,if_pos hi.symm];rfl
      · rw[if_neg hi,if_neg (Ne.symm hi)];rfl
    rw[e];exact this
  · rcases hi with hi|rfl
    · exact Nat.lt_succ_of_lt (hS.ids i hi)
    · exact Nat.lt_succ_self _
  · exact(hS.gh i hi).stay (Stay.refl _ _) hold (fun _ h=>h)
theorem Tri.asSl{P:Program}{n:Nat}{c:Code}{S:St}{Q:Exit→St→Prop}(d sz:Nat) (h:S.get d=.atom (.slice none 0 0)) (ht:Tri P n c (S.known d (.sl sz [])) Q):Tri P n c S Q:=fun w0 F0 D μ F G a w hS=>by
  refine ht w0 F0 D μ F G a w ⟨hS.defers,hS.size,fun s=>?_,hS.heap,hS.ids,hS.ghl,hS.gh⟩
  show Rep _ _ _ _ ((lk ((d,.sl sz []) :: S.env) s).getD .junk) _
  unfold lk
  split
  · rename_i hs
    subst hs
    have:=hS.env d
    rw[h] at this
    rw[zgJ this]
    exact .sl0 sz none 0 (by unfold maxLen;omega) (fun _=>rfl) (fun x hx=>by cases hx)
  · exact hS.env s
theorem ResOk.frz{S:St}{ts:List Nat}{r:PV}(k:Nat) (hr:sealed S.obj (fun _=>false) k (retV S ts)=r) (hp:r.pure=true):ResOk S ts r []:=
  ⟨[],k,rfl,List.nodup_nil,by rw[zbj _ r hp];exact hr,fun i o hi=>by simp at hi⟩
theorem zaN{α:Type}(f:α→PV) (l:List α):(l.map f).take l.length=l.map f:=by rw[List.take_of_length_le];simp
theorem seal_row{H:Nat→Option AO}{keep:Nat→Bool}{k i sz n:Nat}{els:List PV}(hi:H i=some ⟨sz,els⟩) (hk:keep i=false) (hn:n=els.length) (hp:zan els=true):sealed H keep (k+1) (.ob i sz 0 n)=.sl sz els:=by
  simp only[sealed,hk,hi,hn]
  simp only[Bool.false_eq_true,if_false,Nat.zero_add,Nat.le_refl,and_self,if_true,List.drop_zero,List.take_length,zap _ _ _ hp]
theorem zmh{l:List PV}(h:(l.all fun q=>q.cells.all PV.one)=true) (n:Nat):((l.take n).all fun q=>q.cells.all PV.one)=true:=by
  rw[List.all_eq_true] at h ⊢
  exact fun x hx=>h x (List.mem_of_mem_take hx)
theorem zmi{l:List PV}(h:(l.all fun q=>q.cells.all PV.one)=true) (n:Nat):((l.drop n).all fun q=>q.cells.all PV.one)=true:=by
  rw[List.all_eq_true] at h ⊢
  exact fun x hx=>h x (List.mem_of_mem_drop hx)
theorem znP{l:List PV}(h:zan l=true) (n:Nat):zan (l.take n)=true:=by
  rw[zbo,List.all_eq_true] at h ⊢
  exact fun x hx=>h x (List.mem_of_mem_take hx)
theorem zeE{k:Nat}(h:0<k):((k:Int) - 1).toNat=k - 1:=by omega
@[congr] theorem trOk.congr {nx nx':Nat} {D:List (List Nat)} {tr tr':List Tr} (h:nx=nx') (h2:tr=tr'):trOk nx D tr=trOk nx' D tr':=by rw[h,h2]
/- What stands in a slot, looked up from the newest row on. -/
theorem ziu{S:St}{d:Nat}{p:PV}:(S.known d p).get d=p:=by simp[St.known,St.get,lk]
theorem zhd{S:St}{d s:Nat}{p:PV}(h:d≠s):(S.known d p).get s=S.get s:=by simp[St.known,St.get,lk,h]
theorem zjU{S:St}{d sz:Nat}:(S.born d sz).get d=.ob S.nx sz 0 0:=by simp[St.born,St.get,lk]
theorem ziv{S:St}{d sz s:Nat}(h:d≠s):(S.born d sz).get s=S.get s:=by simp[St.born,St.get,lk,h]
theorem zn8{i:Nat}{x:PV}{t:List (Nat×PV)}{hp:List (Nat×Option AO)}{nx:Nat}{gh:List PV}:St.get ⟨(i,x) :: t,hp,nx,gh⟩ i=x:=by simp[St.get,lk]
theorem zlr{i s:Nat}{x:PV}{t:List (Nat×PV)}{hp:List (Nat×Option AO)}{nx:Nat}{gh:List PV}(h:i≠s):St.get ⟨(i,x) :: t,hp,nx,gh⟩ s=St.get ⟨t,hp,nx,gh⟩ s:=by simp[St.get,lk,h]
theorem zn7{s:Nat}{hp:List (Nat×Option AO)}{nx:Nat}{gh:List PV}:St.get ⟨[],hp,nx,gh⟩ s=.junk:=rfl
/- The reckoning does not look at what stands behind an operation before it has come there. -/
@[congr] theorem xGuard.cong {ops:Array Oper} {S S':St} {o:Oper} {run skip:St→Prop} {tq:Unit→Prop} (hq:∀u:Unit,(True,u).1=tq u) (h:S=S'):xGuard ops S o run skip=xGuard ops S' o run skip:=by subst h;rfl
@[congr] theorem xOps.cong {P:Program} {ops:Array Oper} {l:List Oper} {S S':St} {K:St→Prop} {tq:Unit→Prop} (hq:∀u:Unit,(True,u).1=tq u) (h:S=S'):xOps P ops l S K=xOps P ops l S' K:=by subst h;rfl
@[congr] theorem xOpsT.cong {P:Program} {ops:Array Oper} {l:List Oper} {S S':St} {tr tr':List Tr} {K:St→List Tr→Prop} {tq:Unit→Prop} (hq:∀u:Unit,(True,u).1=tq u) (h:S=S') (h2:tr=tr'):xOpsT P ops l S tr K=xOpsT P ops l S' tr' K:=by subst h h2;rfl
@[congr] theorem vop.cong {P:Program} {op:Op} {S S':St} {K:PV→Eff→Prop} {tq:Unit→Prop} (hq:∀u:Unit,(True,u).1=tq u) (h:S=S'):vop P op S K=vop P op S' K:=by subst h;rfl
@[congr] theorem vLoad.cong {P:Program} {t:TypeId} {S S':St} {a a':PV} {K:PV→Eff→Prop} {tq:Unit→Prop} (hq:∀u:Unit,(True,u).1=tq u) (h:S=S') (h2:a=a'):vLoad P t S a K=vLoad P t S' a' K:=by subst h h2;rfl
@[congr] theorem vStore.cong {P:Program} {t:TypeId} {S S':St} {a a' v v':PV} {K:PV→Eff→Prop} {tq:Unit→Prop} (hq:∀u:Unit,(True,u).1=tq u) (h:S=S') (h2:a=a') (h3:v=v'):vStore P t S a v K=vStore P t S' a' v' K:=by subst h h2 h3;rfl
@[congr] theorem vFieldAddr.cong {P:Program} {t:TypeId} {f:Nat} {a a':PV} {K:PV→Eff→Prop} {tq:Unit→Prop} (hq:∀u:Unit,(True,u).1=tq u) (h:a=a'):vFieldAddr P t f a K=vFieldAddr P t f a' K:=by subst h;rfl
@[congr] theorem vField.cong {P:Program} {t:TypeId} {f:Nat} {a a':PV} {K:PV→Eff→Prop} {tq:Unit→Prop} (hq:∀u:Unit,(True,u).1=tq u) (h:a=a'):vField P t f a K=vField P t f a' K:=by subst h;rfl
@[congr] theorem vIndexAddr.cong {P:Program} {t:TypeId} {a a' i i':PV} {K:PV→Eff→Prop} {tq:Unit→Prop} (hq:∀u:Unit,(True,u).1=tq u) (h:a=a') (h2:i=i'):vIndexAddr P t a i K=vIndexAddr P t a' i' K:=by subst h h2;rfl
@[congr] theorem vIndex.cong {P:Program} {t:TypeId} {a a' i i':PV} {K:PV→Eff→Prop} {tq:Unit→Prop} (hq:∀u:Unit,(True,u).1=tq u) (h:a=a') (h2:i=i'):vIndex P t a i K=vIndex P t a' i' K:=by subst h h2;rfl
@[congr] theorem vBin.cong {P:Program} {op:BinOp} {t:TypeId} {a a' b b':PV} {K:PV→Eff→Prop} {tq:Unit→Prop} (hq:∀u:Unit,(True,u).1=tq u) (h:a=a') (h2:b=b'):vBin P op t a b K=vBin P op t a' b' K:=by subst h h2;rfl
@[congr] theorem vSlice.cong {P:Program} {t:TypeId} {S S':St} {a a':PV} {lo hi:Option Operand} {K:PV→Eff→Prop} {tq:Unit→Prop} (hq:∀u:Unit,(True,u).1=tq u) (h:S=S') (h2:a=a'):vSlice P t S a lo hi K=vSlice P t S' a' lo hi K:=by subst h h2;rfl
@[congr] theorem vBase.cong {S S':St} {sz sz':Nat} {a a':PV} {K:List PV→List Nat→Prop} {tq:Unit→Prop} (hq:∀u:Unit,(True,u).1=tq u) (h:S=S') (h1:sz=sz') (h2:a=a'):vBase S sz a K=vBase S' sz' a' K:=by subst h h1 h2;rfl
@[congr] theorem vSrc.cong {S S':St} {sz sz':Nat} {a a':PV} {K:List PV→List Nat→Prop} {tq:Unit→Prop} (hq:∀u:Unit,(True,u).1=tq u) (h:S=S') (h1:sz=sz') (h2:a=a'):vSrc S sz a K=vSrc S' sz' a' K:=by subst h h1 h2;rfl
@[congr] theorem vAppend.cong {P:Program} {t:TypeId} {S S':St} {a a' b b':PV} {K:PV→Eff→Prop} {tq:Unit→Prop} (hq:∀u:Unit,(True,u).1=tq u) (h:S=S') (h2:a=a') (h3:b=b'):vAppend P t S a b K=vAppend P t S' a' b' K:=by subst h h2 h3;rfl
@[congr] theorem vConvert.cong {P:Program} {t t2:TypeId} {S S':St} {a a':PV} {K:PV→Eff→Prop} {tq:Unit→Prop} (hq:∀u:Unit,(True,u).1=tq u) (h:S=S') (h2:a=a'):vConvert P t t2 S a K=vConvert P t t2 S' a' K:=by subst h h2;rfl
@[congr] theorem vMake.cong {P:Program} {t:TypeId} {S S':St} {a a' b b':PV} {K:PV→Eff→Prop} {tq:Unit→Prop} (hq:∀u:Unit,(True,u).1=tq u) (h:S=S') (h2:a=a') (h3:b=b'):vMake P t S a b K=vMake P t S' a' b' K:=by subst h h2 h3;rfl
@[congr] theorem vMinMax.cong {mx:Bool} {a a' b b':PV} {K:PV→Eff→Prop} {tq:Unit→Prop} (hq:∀u:Unit,(True,u).1=tq u) (h:a=a') (h2:b=b'):vMinMax mx a b K=vMinMax mx a' b' K:=by subst h h2;rfl
@[congr] theorem vLen.cong {P:Program} {t:TypeId} {S S':St} {a a':PV} {K:PV→Eff→Prop} {tq:Unit→Prop} (hq:∀u:Unit,(True,u).1=tq u) (h0:S=S') (h:a=a'):vLen P t S a K=vLen P t S' a' K:=by subst h0 h;rfl
@[congr] theorem vopI.cong {P:Program} {op:Op} {S S':St} {K:PV→Eff→Prop} {tq:Unit→Prop} (hq:∀u:Unit,(True,u).1=tq u) (h:S=S'):vopI P op S K=vopI P op S' K:=by subst h;rfl
@[congr] theorem vFnI.cong {P:Program} {S S':St} {g g':PV} {xs:List Operand} {K:PV→Eff→Prop} {tq:Unit→Prop} (hq:∀u:Unit,(True,u).1=tq u) (h:S=S') (h2:g=g'):vFnI P S g xs K=vFnI P S' g' xs K:=by subst h h2;rfl
@[congr] theorem vProc.cong {P:Program} {S S':St} {f:FuncId} {vals vals':List PV} {K:PV→Eff→Prop} {tq:Unit→Prop} (hq:∀u:Unit,(True,u).1=tq u) (h:S=S') (h2:vals=vals'):vProc P S f vals K=vProc P S' f vals' K:=by subst h h2;rfl
@[congr] theorem vFnD.cong {P:Program} {S S':St} {g g':PV} {xs:List Operand} {K:PV→Eff→Prop} {tq:Unit→Prop} (hq:∀u:Unit,(True,u).1=tq u) (h:S=S') (h2:g=g'):vFnD P S g xs K=vFnD P S' g' xs K:=by subst h h2;rfl
@[congr] theorem vProcD.cong {P:Program} {S S':St} {f:FuncId} {vals vals':List PV} {K:PV→Eff→Prop} {tq:Unit→Prop} (hq:∀u:Unit,(True,u).1=tq u) (h:S=S') (h2:vals=vals'):vProcD P S f vals K=vProcD P S' f vals' K:=by subst h h2;rfl
@[congr] theorem vFn.cong {P:Program} {S S':St} {g g':PV} {xs:List Operand} {K:PV→Eff→Prop} {tq:Unit→Prop} (hq:∀u:Unit,(True,u).1=tq u) (h:S=S') (h2:g=g'):vFn P S g xs K=vFn P S' g' xs K:=by subst h h2;rfl
@[congr] theorem vBinO.cong {P:Program} {op:BinOp} {t:TypeId} {S S':St} {x y:Operand} {K:PV→Eff→Prop} {tq:Unit→Prop} (hq:∀u:Unit,(True,u).1=tq u) (h:S=S'):vBinO P op t S x y K=vBinO P op t S' x y K:=by subst h;rfl
@[congr] theorem vCallO.cong {P:Program} {S S':St} {c:Callee} {xs:List Operand} {ts:List TypeId} {K:PV→Eff→Prop} {tq:Unit→Prop} (hq:∀u:Unit,(True,u).1=tq u) (h:S=S'):vCallO P S c xs ts K=vCallO P S' c xs ts K:=by subst h;rfl
@[congr] theorem vMakeF.cong {S S':St} {fn:Fn} {first cap:List Operand} {K:PV→Eff→Prop} {tq:Unit→Prop} (hq:∀u:Unit,(True,u).1=tq u) (h:S=S'):vMakeF S fn first cap K=vMakeF S' fn first cap K:=by subst h;rfl
@[congr] theorem vUn.cong {op:UnOp} {a a':PV} {K:PV→Eff→Prop} {tq:Unit→Prop} (hq:∀u:Unit,(True,u).1=tq u) (h:a=a'):vUn op a K=vUn op a' K:=by subst h;rfl
theorem li_ext{a b:List Int}(h:a.length=b.length) (h2:∀i,i<b.length→li a i=li b i):a=b:=
  List.ext_getElem h fun i h1 h3=>by
    have:=h2 i h3
    simpa[li,List.getD_eq_getElem?_getD,h1,h3] using this
theorem ls_ext{a b:List ByteArray}(h:a.length=b.length) (h2:∀i,i<b.length→ls a i=ls b i):a=b:=
  List.ext_getElem h fun i h1 h3=>by
    have:=h2 i h3
    simpa[ls,List.getD_eq_getElem?_getD,h1,h3] using this
theorem zf1{l:List Int}{k:Nat}(h:k<l.length):li l k∈l:=by
  have:li l k=l[k]:=by simp[li,List.getD_eq_getElem?_getD,h]
  rw[this];exact List.getElem_mem h
theorem zfp{l:List ByteArray}{k:Nat}(h:k<l.length):ls l k∈l:=by
  have:ls l k=l[k]:=by simp[ls,List.getD_eq_getElem?_getD,h]
  rw[this];exact List.getElem_mem h
theorem aB{p q:Bool}(h:p=q):PV.atom (.bool p)=.atom (.bool q):=by rw[h]
theorem aI{k:IntKind}{p q:Int}(h:p=q):PV.atom (.int k p)=.atom (.int k q):=by rw[h]
end Go.Proofs.YtehoglapajkabaaGreat

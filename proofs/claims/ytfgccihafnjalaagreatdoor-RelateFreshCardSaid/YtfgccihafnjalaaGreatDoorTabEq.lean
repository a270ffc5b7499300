/- The translations are so. -/
import Derived.Test.YtfgccihafnjalaaGreatDoorTabB
import Derived.Test.YtfgccihafnjalaaGreatDoorProg
namespace Go.Proofs.YtfgccihafnjalaaGreatDoor
open Go Go.Am
set_option maxRecDepth 100000
def QbS:Nat→List Nat:=fun i=>[[],[],[21,22,23],[],[24,25],[],[26,27,28,29,30,31],[],[33],[],[34],[],[36,37,38,39,40,41,42,35,43,44],[],[45,46,47,48,49,50,51],[],[52,53,54,55,56,57,58,59,60,61,62,63,64,65,66,67,68,69,70,71,72,73,74,75,76,77,78,79,80,81,82,83,84,85,86,87,88],[3,0,3,3,3,3,3,3,0,3,3,3,3,3,3,3,0,3,0,3,3,3,3,3,3,3,0,3,3,3,3,3,3,1,3,2,3,3],[],[],[],[],[90,91,92],[],[],[],[93,94,95],[],[97,98],[],[99,100,101,102,103,104],[],[106,107,108,109,110,111,112],[],[],[],[113,114],[],[116,117],[],[118,119,120,121,122,123,124,125,126],[],[],[],[128,129,130,131,132,133,134,135,136,137],[]].getD i []
theorem QbQ:Qp Tryz.prog (fun d=>List.contains [42,87,126] d) QbS 5=some proofmarklaw25_RelateFresh:=by kernel_rfl
theorem QbU:Qg Tryz.prog 5=true:=by kernel_rfl
def Qfc:Nat→List Nat:=fun i=>[[],[],[8,9,10],[],[11,12,13,14,15,16,17,18,19,20,21],[],[22],[],[24,25,26,27,28,29,30,31,32,33,34,35,23,36,37,7],[3,0,3,0,3,0,3,0,3,2,1,2,3,3,3,1,2,3],[38,39,40,41,42,43,44,45,46,47,48,49,50,51,52,53,54,55,56,57,58,59,60,61,62,63,64,65,66,67,68,69,70,71,72,73,74,75,76,77,78,79,80,81,82,83,84,85,86,87,88,89,90,91,92,93,94,95,96,97,98,99,100,101,102,103,104,105,106,107,108,109,110,111,112,113,114,115,116],[3,3,3,3,3,3,0,0,3,3,3,3,3,0,3,3,3,3,3,3,0,3,3,3,3,3,0,3,0,3,0,3,0,3,3,3,3,0,3,0,3,3,3,0,3,3,3,3,0,3,0,3,3,0,3,0,3,3,3,3,1,3,1,3,2,3,3,3,3,3,0,3,0,3,0,3,0,3,3,3]].getD i []
theorem Qe4:Qp Tryz.prog (fun d=>List.contains [35,102] d) Qfc 8=some proofmarklaw25_works:=by kernel_rfl
theorem Qfk:Qg Tryz.prog 8=true:=by kernel_rfl
def Qfd:Nat→List Nat:=fun i=>[[],[],[],[],[],[],[5,6,7],[],[9,10],[],[11,12,13,14,15,16,17,18,19,20,21,22,23,24,25,26,27,28,29,30,31],[3,3,3,3,3,0,3,3,3,3,3,0,3,3,3,3,3,0,3,2,2,3],[32],[]].getD i []
theorem Qe5:Qp Tryz.prog (fun _=>false) Qfd 9=some Xk:=by kernel_rfl
theorem Qfl:Qg Tryz.prog 9=true:=by kernel_rfl
def QgM:Nat→List Nat:=fun i=>[[],[],[],[],[6,7,8],[],[10,11],[],[12,13,14,15,16],[3,3,3,0,0,3],[],[],[],[]].getD i []
theorem QgJ:Qp Tryz.prog (fun _=>false) QgM 10=some XE:=by kernel_rfl
theorem QgP:Qg Tryz.prog 10=true:=by kernel_rfl
def Qm6:Nat→List Nat:=fun i=>[[],[],[4,5],[],[6,7],[],[8,9],[]].getD i []
theorem QmX:Qp Tryz.prog (fun _=>false) Qm6 12=some ZU:=by kernel_rfl
theorem Qni:Qg Tryz.prog 12=true:=by kernel_rfl
def Qeu:Nat→List Nat:=fun i=>[[],[],[],[],[],[],[6,7,8],[],[10,11],[],[12,13,14,15,16],[],[18,19,20,21,22,23,24],[],[25,26,27],[],[28,29,30,31,32,33,34,35,36,37,38,39,40],[3,3,3,3,3,3,0,3,3,3,3,0,2,3],[42,43],[],[44,45,46,47,48,49,50,51,52,53,54,55,56,57,58,59],[3,3,3,3,3,3,3,3,3,0,3,3,3,0,3,2,3,2],[60],[]].getD i []
theorem Qep:Qp Tryz.prog (fun _=>false) Qeu 13=some Xe:=by kernel_rfl
theorem QeB:Qg Tryz.prog 13=true:=by kernel_rfl
def QpI:Nat→List Nat:=fun i=>[[],[],[6,7],[],[8,9,10,11],[]].getD i []
theorem QpD:Qp Tryz.prog (fun _=>false) QpI 14=some Qb9:=by kernel_rfl
theorem QpP:Qg Tryz.prog 14=true:=by kernel_rfl
def Qdm:Nat→List Nat:=fun i=>[[],[],[7,8,9],[],[10,11,12],[],[13],[],[15,16,17,18,19,20,21,22,23],[],[25,26,27,24,28,29,6],[],[30,31],[],[33],[],[34,35,36],[]].getD i []
theorem Qdk:Qp Tryz.prog (fun _=>false) Qdm 17=some proofmarklaw25_function:=by kernel_rfl
theorem Qdp:Qg Tryz.prog 17=true:=by kernel_rfl
def QuG:Nat→List Nat:=fun i=>[[],[],[1,2,3],[]].getD i []
theorem QuA:Qp Tryz.prog (fun _=>false) QuG 18=some Qid:=by kernel_rfl
theorem QuX:Qg Tryz.prog 18=true:=by kernel_rfl
def Qn1:Nat→List Nat:=fun i=>[[],[],[31,32,33,34,35,30,36,37],[],[38,39,40,41,42],[0,3,1,0,3,1,2],[43,44],[],[45,46,47,48],[],[],[],[],[],[53,54],[],[55,56,57,58,59,60,61,62],[],[63],[],[64],[],[],[],[],[],[69,70],[],[71,72,73,74,75],[],[77,78,79,76,80,81,24],[],[82,83,84,85,86,87,88],[],[90,91,92,93,94,95,96],[1,1,0,3,3,0,2,2],[97],[],[98],[],[99,100,101,102],[],[103,104],[],[],[],[108],[],[109,110,111,112,113,114,115,116],[3,1,3,3,3,3,2,3,2],[117],[],[],[],[],[],[122,123],[],[124,125],[],[128],[],[129,130,131,132,133,134,135,136,137,138,139],[3,3,1,3,3,0,3,2,3,3,3,2],[141],[],[142,143,144,145,146,147,148,149,150,151,152,153],[3,3,1,3,3,1,3,3,0,3,2,3,2],[154],[],[155,156],[0,1,2,3]].getD i []
theorem QnR:Qp Tryz.prog (fun d=>List.contains [35,62,96,101,115,136,152] d) Qn1 19=some relate_Fresh:=by kernel_rfl
theorem Qob:Qg Tryz.prog 19=true:=by kernel_rfl
def Qrb:Nat→List Nat:=fun i=>[[],[],[5,6,7,8],[]].getD i []
theorem Qq1:Qp Tryz.prog (fun _=>false) Qrb 20=some QdH:=by kernel_rfl
theorem QrA:Qg Tryz.prog 20=true:=by kernel_rfl
def Qfb:Nat→List Nat:=fun i=>[[],[],[8,9,10,11,12,13,14,15,16],[],[17],[],[20],[],[21,22,23,24,25,26,27,28,29,30,31,32,33,34,35,36],[],[38],[],[39,40,41,42,43,44,45,46,47,48,49,50],[],[51,52,53,54,55,56],[]].getD i []
theorem Qe3:Qp Tryz.prog (fun _=>false) Qfb 21=some Qi:=by kernel_rfl
theorem Qfj:Qg Tryz.prog 21=true:=by kernel_rfl
def d_proofmarklaw25_holds:Nat→List Nat:=fun i=>[[],[],[26,27,28],[],[29,30,31],[],[],[],[],[],[32,33,34],[],[36,37],[],[],[],[],[],[38,39,40],[],[42,43],[],[44,45,46,47,48,49,50,51,52,53,54,55,56],[3,3,3,3,3,0,3,3,3,3,0,3,3,3],[57],[],[59,60,61,62,63,64,65,66,67],[],[],[],[69,70,71,72,73,74,75,76],[],[],[],[78,79,80,81,82,83,84,85,86,87,88,89,90,91,92,93,94,95,96,97,98,99,100,101,102,103,104,105,106,107,108,109,110],[0,3,3,3,3,0,2,3,3,3,3,3,3,3,0,3,3,3,0,3,3,3,3,0,3,3,3,3,0,2,3,3,3,3],[],[],[113,114,115,112,116,117],[],[118,119,120,121,122,123,124,125,126,127,128,129,130,131,132,133,134,135,136,137,138,139],[],[],[],[],[],[141,142,143,144,145,146],[],[148,149],[],[],[],[],[],[150,151,152],[],[154,155],[],[156,157,158,159,160,161,162,163,164],[],[165,166,167,168,169,170,171,172],[],[],[],[],[]].getD i []
theorem e_proofmarklaw25_holds:Qp Tryz.prog (fun d=>List.contains [76,107] d) d_proofmarklaw25_holds 22=some proofmarklaw25_holds:=by kernel_rfl
theorem b_proofmarklaw25_holds:Qg Tryz.prog 22=true:=by kernel_rfl
def Qfe:Nat→List Nat:=fun i=>[[],[],[],[],[],[],[19],[],[21,22],[],[23,24,25,26,27,28,29],[],[31,32,33,34,35,36,37,38],[],[],[],[39,40,41,42,43],[],[45,46],[],[47,48,49],[],[51,52,53,54,55,56,57,58,59],[],[],[],[60,61,62],[],[64,65],[],[67,68,69,70,71,72,66,73,74],[],[75,76,77,78,79,80,81,82,83,84,85,86,87,88,89,90,91,92,93,94,95,96,97,98,99,100,101],[3,3,3,3,0,3,3,3,3,0,3,3,3,3,3,0,3,3,3,3,3,3,3,0,3,0,3,3],[],[],[],[],[103,104],[],[106,107],[],[108,109,110,111,112,113,114,115],[3,3,3,0,3,3,3,0,3],[],[],[],[],[117,118,119,120],[],[122,123],[],[124,125,126,127,128,129,130,131,132],[3,3,3,0,3,0,3,3,0,3],[],[],[],[]].getD i []
theorem Qe6:Qp Tryz.prog (fun _=>false) Qfe 23=some Xl:=by kernel_rfl
theorem Qfm:Qg Tryz.prog 23=true:=by kernel_rfl
def Qrc:Nat→List Nat:=fun i=>[[],[],[13,14],[],[15],[],[16,17,18,19],[],[],[],[],[],[22],[],[],[],[24,25,26,27,28],[],[30],[],[31,32,33,34,35],[],[37],[],[38,39,40],[],[41],[],[42,43,44,45,46,47],[],[],[],[51,52,53,54,55,56,57],[3,1,3,2,1,2,3,2],[58],[],[59,60],[0,1,2,3]].getD i []
theorem Qq2:Qp Tryz.prog (fun d=>List.contains [26,33,54] d) Qrc 24=some QdN:=by kernel_rfl
theorem QrB:Qg Tryz.prog 24=true:=by kernel_rfl
def QuK:Nat→List Nat:=fun i=>[[],[],[5,6,7,8],[]].getD i []
theorem QuE:Qp Tryz.prog (fun _=>false) QuK 25=some Qir:=by kernel_rfl
theorem Qu1:Qg Tryz.prog 25=true:=by kernel_rfl
def QhU:Nat→List Nat:=fun i=>[[],[],[],[],[11],[],[12,13,14,15,16],[],[18],[],[19,20,21,22,23,24],[],[25,26,27],[]].getD i []
theorem QhO:Qp Tryz.prog (fun d=>List.contains [27] d) QhU 27=some Xp:=by kernel_rfl
theorem Qh1:Qg Tryz.prog 27=true:=by kernel_rfl
def Qf6:Nat→List Nat:=fun i=>[[],[],[5],[],[7,8],[],[9,10,11,12,13],[]].getD i []
theorem Qf1:Qp Tryz.prog (fun _=>false) Qf6 28=some Xb:=by kernel_rfl
theorem Qgb:Qg Tryz.prog 28=true:=by kernel_rfl
def Y1:Nat→List Nat:=fun i=>[[],[],[3],[],[],[],[5,6,7],[]].getD i []
theorem YY:Qp Tryz.prog (fun _=>false) Y1 29=some Qv:=by kernel_rfl
theorem Y4:Qg Tryz.prog 29=true:=by kernel_rfl
def Yq:Nat→List Nat:=fun i=>[[5,6],[],[7,8,9,10,11,12,13],[]].getD i []
theorem Yn:Qp Tryz.prog (fun _=>false) Yq 30=some QJ:=by kernel_rfl
theorem Yt:Qg Tryz.prog 30=true:=by kernel_rfl
def YA:Nat→List Nat:=fun i=>[[],[],[6,7],[],[9],[],[],[],[10,11,12],[],[14,15],[],[16,17,18,19,20,21,22,23,24],[3,3,3,0,3,3,3,3,0,3],[26,27,28],[],[],[],[29,30,31],[],[33,34],[],[35,36,37,38,39,40,41,42,43],[3,3,3,0,3,3,3,3,0,3],[45,46,47,48,49,50,51],[],[52,53],[],[54,55,56],[],[57,58,59],[],[60],[]].getD i []
theorem Yz:Qp Tryz.prog (fun _=>false) YA 32=some Qm:=by kernel_rfl
theorem YB:Qg Tryz.prog 32=true:=by kernel_rfl
def Qev:Nat→List Nat:=fun i=>[[],[],[5,6,7,8],[],[10,11,12,13,14],[],[15,16,17,18],[],[20,21,22,23,24],[],[25,26,27,28,29],[]].getD i []
theorem Qeq:Qp Tryz.prog (fun _=>false) Qev 33=some QM:=by kernel_rfl
theorem QeC:Qg Tryz.prog 33=true:=by kernel_rfl
def Qq8:Nat→List Nat:=fun i=>[[],[],[6],[],[],[],[],[],[11,12],[],[13,14],[],[15],[],[16],[]].getD i []
theorem QqY:Qp Tryz.prog (fun _=>false) Qq8 34=some QdF:=by kernel_rfl
theorem Qrx:Qg Tryz.prog 34=true:=by kernel_rfl
def X4:Nat→List Nat:=fun i=>[[],[],[8,9,10],[],[11],[],[13],[],[14,15],[],[16,17,18],[],[20,21],[],[22,23,24,25],[],[26,27,28],[],[30,31,32,33],[],[34,35],[],[36,37,38],[],[39,40,41],[]].getD i []
theorem X3:Qp Tryz.prog (fun _=>false) X4 35=some Qk:=by kernel_rfl
theorem X5:Qg Tryz.prog 35=true:=by kernel_rfl
def Qlb:Nat→List Nat:=fun i=>[[],[],[4,5,6,7],[]].getD i []
theorem Qk0:Qp Tryz.prog (fun _=>false) Qlb 36=some Zk:=by kernel_rfl
theorem Qlo:Qg Tryz.prog 36=true:=by kernel_rfl
def QiS:Nat→List Nat:=fun i=>[[],[],[4,5,6,7],[]].getD i []
theorem QiP:Qp Tryz.prog (fun _=>false) QiS 38=some X7:=by kernel_rfl
theorem QiX:Qg Tryz.prog 38=true:=by kernel_rfl
def Qra:Nat→List Nat:=fun i=>[[],[],[8,9],[],[11],[],[],[],[12,13],[],[],[],[17],[],[19,20,21,18,22,23],[],[24,25],[],[27],[0,3,2],[28,29,30,31],[],[32],[],[33,34],[]].getD i []
theorem Qq0:Qp Tryz.prog (fun d=>List.contains [30] d) Qra 39=some Qjp:=by kernel_rfl
theorem Qrz:Qg Tryz.prog 39=true:=by kernel_rfl
def QgN:Nat→List Nat:=fun i=>[[],[],[10,11],[],[],[],[12,13,14],[],[16,17],[],[18,19,20,21,22,23,24,25,26,27,28,29,30,31,32,33,34,35,36,37,38,39],[],[],[],[40,41,42,43,44,45],[],[47,48],[],[50,51,52,53,54,55,56,57,49,58,59],[],[60],[],[62,63,64,65,66,67],[],[68],[]].getD i []
theorem QgK:Qp Tryz.prog (fun _=>false) QgN 40=some ZV:=by kernel_rfl
theorem QgQ:Qg Tryz.prog 40=true:=by kernel_rfl
def QjT:Nat→List Nat:=fun i=>[[],[],[5,6,7,8,9,10,11],[]].getD i []
theorem QjM:Qp Tryz.prog (fun _=>false) QjT 41=some YM:=by kernel_rfl
theorem Qj3:Qg Tryz.prog 41=true:=by kernel_rfl
def Qn0:Nat→List Nat:=fun i=>[[],[],[7,8,9,10,11,12,13,14],[],[],[],[16,17],[],[20],[],[21,22,23,24],[],[26],[],[27,28,29,30,31,32,33,34,35,36,37],[],[38,39,40,41],[]].getD i []
theorem QnQ:Qp Tryz.prog (fun _=>false) Qn0 42=some QW:=by kernel_rfl
theorem Qoa:Qg Tryz.prog 42=true:=by kernel_rfl
def Qbh:Nat→List Nat:=fun i=>[[],[],[8,9,10,11,12,13],[0,0,1,0,0,2,1,1,2,2],[14,15],[],[17,18,19,20],[]].getD i []
theorem Qbe:Qp Tryz.prog (fun _=>false) Qbh 43=some Qy:=by kernel_rfl
theorem Qbl:Qg Tryz.prog 43=true:=by kernel_rfl
def Qbg:Nat→List Nat:=fun i=>[[],[],[8,9,10,11,7,12,13],[],[14],[],[16],[],[17],[]].getD i []
theorem Qbd:Qp Tryz.prog (fun _=>false) Qbg 44=some QG:=by kernel_rfl
theorem Qbk:Qg Tryz.prog 44=true:=by kernel_rfl
def QjS:Nat→List Nat:=fun i=>[[],[],[10,11,12],[],[14,15,16,13,17,18,8],[],[19],[],[21,22,23,24,25],[1,1,0,0,2,2],[26,27],[],[28,29,30],[]].getD i []
theorem QjL:Qp Tryz.prog (fun d=>List.contains [25] d) QjS 45=some YL:=by kernel_rfl
theorem Qj2:Qg Tryz.prog 45=true:=by kernel_rfl
def Qk9:Nat→List Nat:=fun i=>[[],[],[12,13,14,15,16,17,18],[],[],[],[21,22,23,24,25,26,20,27,28],[3,3,3,0,0,0,3,3,3,3,3],[],[],[30],[],[31,32,33,34,35],[],[36,37,38],[],[39],[],[],[],[44,45],[],[46,47,48,49,50,51,52,53,54,55,56,57,58,59,60,61,62,63],[3,3,3,3,0,3,3,0,3,3,3,3,3,0,3,3,0,3,3,3],[64],[],[65,66,67,68,69,70,71,72,73,74,75,76,77,78,79,80,81,82],[3,3,3,3,0,1,3,3,3,0,0,1,1,3,3,3,2,2,3,2],[83,84,85,86,87,88,89,90,91,92,93,94,95,96,97,98,99,100,101,102,103,104],[3,3,3,3,3,0,3,3,1,1,3,3,3,0,3,3,1,2,3,3,2,3,3,2],[105],[]].getD i []
theorem QkX:Qp Tryz.prog (fun _=>false) Qk9 46=some Zi:=by kernel_rfl
theorem Qll:Qg Tryz.prog 46=true:=by kernel_rfl
def Qf5:Nat→List Nat:=fun i=>[[],[],[9,10],[],[],[],[],[],[],[],[],[],[12,13,14],[],[16,17],[],[],[],[18,19,20],[],[22,23],[],[24,25,26,27,28,29,30,31,32,33,34,35,36,37,38,39,40,41,42,43,44,45,46,47,48,49,50,51,52,53,54,55,56,57,58,59,60,61,62,63,64,65],[3,3,3,3,0,3,3,3,3,0,3,3,3,3,3,3,0,3,3,3,3,0,3,3,3,3,3,3,3,3,0,2,3,3,3,3,3,3,3,3,0,2,3],[67,68,69,70,71,72,73,74],[],[],[],[75],[]].getD i []
theorem Qf0:Qp Tryz.prog (fun d=>List.contains [10] d) Qf5 47=some Xs:=by kernel_rfl
theorem Qga:Qg Tryz.prog 47=true:=by kernel_rfl
def QjR:Nat→List Nat:=fun i=>[[],[],[6,7,8],[],[10],[],[11,12,13,14,15,16,17],[]].getD i []
theorem QjK:Qp Tryz.prog (fun _=>false) QjR 48=some YK:=by kernel_rfl
theorem Qj1:Qg Tryz.prog 48=true:=by kernel_rfl
def Qew:Nat→List Nat:=fun i=>[[],[],[],[],[8,9,10],[],[12,13],[],[14,15,16,17,18,19,20,21,22,23,24,25,26,27,28],[],[],[],[],[]].getD i []
theorem Qer:Qp Tryz.prog (fun _=>false) Qew 49=some Xf:=by kernel_rfl
theorem QeD:Qg Tryz.prog 49=true:=by kernel_rfl
def Qna:Nat→List Nat:=fun i=>[[],[],[3,4],[],[5,6,7,8],[]].getD i []
theorem Qm1:Qp Tryz.prog (fun _=>false) Qna 50=some Z1:=by kernel_rfl
theorem Qnm:Qg Tryz.prog 50=true:=by kernel_rfl
def Qm9:Nat→List Nat:=fun i=>[[],[],[3,4,5],[],[6,7],[]].getD i []
theorem Qm0:Qp Tryz.prog (fun _=>false) Qm9 54=some Qef:=by kernel_rfl
theorem Qnl:Qg Tryz.prog 54=true:=by kernel_rfl
def X9:Nat→List Nat:=fun i=>[[],[],[6],[],[],[],[10],[],[11,12,13,14,15],[],[17],[],[18],[],[],[]].getD i []
theorem X8:Qp Tryz.prog (fun _=>false) X9 59=some Qs:=by kernel_rfl
theorem Yc:Qg Tryz.prog 59=true:=by kernel_rfl
def QpJ:Nat→List Nat:=fun i=>[[],[],[7],[],[],[],[8],[],[9,10,11,12,13],[],[14,15,16],[]].getD i []
theorem QpE:Qp Tryz.prog (fun d=>List.contains [13] d) QpJ 60=some QhI:=by kernel_rfl
theorem QpQ:Qg Tryz.prog 60=true:=by kernel_rfl
def Qn2:Nat→List Nat:=fun i=>[[],[],[17,18,19,16,20,21],[],[22,23,24,25,26,27,28,29,30,31,32],[0,3,0,3,3,3,0,3,3,3,2,3],[33],[],[34,35,36,37,38,39],[],[],[],[44,45,46],[],[48,49,47,50,51],[],[52],[],[54,55,56],[],[57,58,59,60,61,62,63,64,65,66,67,68],[3,3,3,3,3,0,0,1,2,3,3,3,2],[69],[],[70,71,72,73,74,75,76,77,78,79,80,81],[],[82,83,84,85,86],[],[],[],[90],[],[91,92,93],[],[95,96,97,98],[],[99,100,101],[],[102],[],[104,105,106,107,108],[],[109],[],[110,111,112,113,114,115,116,117,118],[],[119,120,121,122,123],[]].getD i []
theorem QnS:Qp Tryz.prog (fun _=>false) Qn2 61=some QfA:=by kernel_rfl
theorem Qoc:Qg Tryz.prog 61=true:=by kernel_rfl
def QsD:Nat→List Nat:=fun i=>[[],[],[8,9,10,7,11,12],[],[],[],[13,14,15,16,17,18,19,20,21,22,23,24,25,26,27,28,29,30,31,32,33,34,35,36,37,38,39,40,41,42,43,44,45,46,47,48,49,50,51,52,53,54,55],[],[],[],[57,58,59,60,61],[],[],[],[63,64,65,66,67,68,69,70,71,72,73,74,75,76,77,78,79,80,81,82,83,84,85,86,87,88,89],[3,0,3,0,3,3,0,3,3,0,3,3,0,3,3,0,3,3,0,3,3,0,3,0,1,2,2,3,3]].getD i []
theorem Qsy:Qp Tryz.prog (fun _=>false) QsD 62=some Qb8:=by kernel_rfl
theorem QsN:Qg Tryz.prog 62=true:=by kernel_rfl
def Qq9:Nat→List Nat:=fun i=>[[],[],[3,4,5,6,7,8,9,10,11,12],[]].getD i []
theorem QqZ:Qp Tryz.prog (fun _=>false) Qq9 63=some Xz:=by kernel_rfl
theorem Qry:Qg Tryz.prog 63=true:=by kernel_rfl
def Qk8:Nat→List Nat:=fun i=>[[],[],[5,6,7],[],[],[],[9],[],[12],[],[],[],[14],[],[15,16,17],[],[19],[],[20,21,22,23,24,25,26,27,28,29,30,31,32,33],[],[35],[],[36,37,38,39,40,41,42,43,44,45,46,47,48,49,50,51,52,53,54,55],[],[],[]].getD i []
theorem QkW:Qp Tryz.prog (fun _=>false) Qk8 64=some Zh:=by kernel_rfl
theorem Qlk:Qg Tryz.prog 64=true:=by kernel_rfl
def Qq5:Nat→List Nat:=fun i=>[[],[],[8,9,10],[],[11],[],[14],[],[15],[],[17],[],[18,19],[],[21],[],[22,23,24,25,26,27,28,29,30,31,32],[],[33,34,35,36,37,38,39,40,41,42,43],[]].getD i []
theorem QqV:Qp Tryz.prog (fun _=>false) Qq5 65=some QdA:=by kernel_rfl
theorem Qru:Qg Tryz.prog 65=true:=by kernel_rfl
def Qq6:Nat→List Nat:=fun i=>[[],[],[3],[],[6],[],[7,8,9],[],[11],[],[12,13,14,15,16],[],[],[]].getD i []
theorem QqW:Qp Tryz.prog (fun _=>false) Qq6 66=some QdB:=by kernel_rfl
theorem Qrv:Qg Tryz.prog 66=true:=by kernel_rfl
def QgL:Nat→List Nat:=fun i=>[[],[],[],[],[6,7,8],[],[10,11],[],[12,13,14,15,16],[],[],[],[],[]].getD i []
theorem QgI:Qp Tryz.prog (fun _=>false) QgL 67=some XD:=by kernel_rfl
theorem QgO:Qg Tryz.prog 67=true:=by kernel_rfl
def Qm4:Nat→List Nat:=fun i=>[[],[],[5,6,7,8,9,10,11,12,13,14,15,16,17,18,19],[]].getD i []
theorem QmV:Qp Tryz.prog (fun _=>false) Qm4 68=some ZO:=by kernel_rfl
theorem Qng:Qg Tryz.prog 68=true:=by kernel_rfl
def QjW:Nat→List Nat:=fun i=>[[],[],[3],[],[5,6],[],[],[],[7],[],[9,10],[],[11,12],[],[13,14,15,16,17,18],[]].getD i []
theorem QjP:Qp Tryz.prog (fun _=>false) QjW 77=some Qcg:=by kernel_rfl
theorem Qj6:Qg Tryz.prog 77=true:=by kernel_rfl
def QjV:Nat→List Nat:=fun i=>[[],[],[3],[],[5,6],[],[],[],[7],[],[9,10],[],[11,12],[],[13],[],[15,16],[],[17,18],[],[19,20,21,22,23,24],[]].getD i []
theorem QjO:Qp Tryz.prog (fun _=>false) QjV 78=some Qcf:=by kernel_rfl
theorem Qj5:Qg Tryz.prog 78=true:=by kernel_rfl
def Qnb:Nat→List Nat:=fun i=>[[],[],[3,4,5],[]].getD i []
theorem Qm2:Qp Tryz.prog (fun _=>false) Qnb 79=some cmp_isNaN_int:=by kernel_rfl
theorem Qnn:Qg Tryz.prog 79=true:=by kernel_rfl
def QjX:Nat→List Nat:=fun i=>[[],[],[3,4,5],[]].getD i []
theorem QjQ:Qp Tryz.prog (fun _=>false) QjX 80=some Qcv:=by kernel_rfl
theorem Qj7:Qg Tryz.prog 80=true:=by kernel_rfl
def Qlh:Nat→List Nat:=fun i=>[[],[],[7,8,9,10,11],[],[12,13,14,15,16,17,18,19,20,21,22,23,24,25,26,27,28,29,30,31,32,33,34,35,36,37,38,39,40,41,42,43,44,45,46,47,48,49],[],[50,51],[],[52],[]].getD i []
theorem Qk6:Qp Tryz.prog (fun _=>false) Qlh 82=some Qdi:=by kernel_rfl
theorem Qlu:Qg Tryz.prog 82=true:=by kernel_rfl
def Qlg:Nat→List Nat:=fun i=>[[],[],[2,3,4,5,6,7,8,9,10,11,12,13,14,15],[]].getD i []
theorem Qk5:Qp Tryz.prog (fun _=>false) Qlg 83=some Qdh:=by kernel_rfl
theorem Qlt:Qg Tryz.prog 83=true:=by kernel_rfl
def Qlf:Nat→List Nat:=fun i=>[[],[],[2,3,4,5,6,7,8,9,10,11],[]].getD i []
theorem Qk4:Qp Tryz.prog (fun _=>false) Qlf 84=some Qdg:=by kernel_rfl
theorem Qls:Qg Tryz.prog 84=true:=by kernel_rfl
def Qle:Nat→List Nat:=fun i=>[[],[],[2,3,4,5,6,7,8,9,10,11,12,13,14,15,16,17,18,19],[]].getD i []
theorem Qk3:Qp Tryz.prog (fun _=>false) Qle 85=some Qdf:=by kernel_rfl
theorem Qlr:Qg Tryz.prog 85=true:=by kernel_rfl
def Qld:Nat→List Nat:=fun i=>[[],[],[3,4,5,6,7],[]].getD i []
theorem Qk2:Qp Tryz.prog (fun _=>false) Qld 86=some Qde:=by kernel_rfl
theorem Qlq:Qg Tryz.prog 86=true:=by kernel_rfl
def Yr:Nat→List Nat:=fun i=>[[],[],[5,6,7,8],[]].getD i []
theorem Yo:Qp Tryz.prog (fun _=>false) Yr 87=some QK:=by kernel_rfl
theorem Yu:Qg Tryz.prog 87=true:=by kernel_rfl
def Ys:Nat→List Nat:=fun i=>[[],[],[5,6,7,8],[]].getD i []
theorem Yp:Qp Tryz.prog (fun _=>false) Ys 88=some QL:=by kernel_rfl
theorem Yv:Qg Tryz.prog 88=true:=by kernel_rfl
def Qlc:Nat→List Nat:=fun i=>[[],[],[3,4,5],[]].getD i []
theorem Qk1:Qp Tryz.prog (fun _=>false) Qlc 89=some Qdd:=by kernel_rfl
theorem Qlp:Qg Tryz.prog 89=true:=by kernel_rfl
def Qn3:Nat→List Nat:=fun i=>[[],[],[7,8,9,10,11,12,13,14,15,16,17,18,19],[],[],[],[21,22,23,24],[],[25,26,27,28,29],[],[31,32,33,34,35,36,37],[],[38,39,40,41,42,43,44],[]].getD i []
theorem QnT:Qp Tryz.prog (fun _=>false) Qn3 90=some QfQ:=by kernel_rfl
theorem Qod:Qg Tryz.prog 90=true:=by kernel_rfl
def QsE:Nat→List Nat:=fun i=>[[],[],[10],[],[11,12,13],[],[14],[],[16],[],[17,18,19],[],[20,21,22,23,24,25,26],[],[27,28,29,30,31,32,33,34,35,36,37,38,39,40,41,42,43,44],[],[],[],[49,50],[],[51],[],[53,54,55,56,57,58,59,60],[3,0,3,0,0,1,3,3,2],[61],[],[62],[]].getD i []
theorem Qsz:Qp Tryz.prog (fun d=>List.contains [45] d) QsE 91=some Qfy:=by kernel_rfl
theorem QsO:Qg Tryz.prog 91=true:=by kernel_rfl
def Qm8:Nat→List Nat:=fun i=>[[],[],[4,5,6],[],[7,8,9,10,11,12,13,14,15,16,17,18,19,20,21,22,23,24,25,26,27,28,29,30,31],[],[],[],[33],[]].getD i []
theorem QmZ:Qp Tryz.prog (fun _=>false) Qm8 92=some Qd9:=by kernel_rfl
theorem Qnk:Qg Tryz.prog 92=true:=by kernel_rfl
def Qe9:Nat→List Nat:=fun i=>[[],[],[8,9,10,11,12,13,14,15,16,17,18,19,20],[],[],[],[],[],[25,26],[],[27,28,29,30],[],[32,33],[],[34],[],[],[]].getD i []
theorem Qe1:Qp Tryz.prog (fun d=>List.contains [20] d) Qe9 93=some Zb:=by kernel_rfl
theorem Qfh:Qg Tryz.prog 93=true:=by kernel_rfl
def QhR:Nat→List Nat:=fun i=>[[],[],[10],[],[11,12],[],[],[],[16],[],[17,18],[],[],[],[23,24],[],[25,26,27,28],[],[29],[],[30],[],[],[],[31],[],[33],[],[35,36,37],[],[38],[],[40,41,42,43],[],[44,45],[],[46],[]].getD i []
theorem QhL:Qp Tryz.prog (fun _=>false) QhR 94=some Qaz:=by kernel_rfl
theorem QhY:Qg Tryz.prog 94=true:=by kernel_rfl
def QGL:Nat→List Nat:=fun i=>[[],[],[5],[],[6,7,8,9,10,11],[],[13],[],[14,15,16],[]].getD i []
theorem QGJ:Qp Tryz.prog (fun _=>false) QGL 95=some Qwk:=by kernel_rfl
theorem QG7:Qg Tryz.prog 95=true:=by kernel_rfl
def QnY:Nat→List Nat:=fun i=>[[],[],[5,6,7,8,9,10,11,12,13],[]].getD i []
theorem QnO:Qp Tryz.prog (fun _=>false) QnY 96=some Qa2:=by kernel_rfl
theorem Qn8:Qg Tryz.prog 96=true:=by kernel_rfl
def QnX:Nat→List Nat:=fun i=>[[],[],[7,8,9],[0,2,3,3,3],[10],[],[12,13,14,15,16],[],[17,18,19,20,21,22,23,24,25,26,27,28,29,30,31,32,33],[]].getD i []
theorem QnN:Qp Tryz.prog (fun _=>false) QnX 97=some Qa1:=by kernel_rfl
theorem Qn7:Qg Tryz.prog 97=true:=by kernel_rfl
def QpG:Nat→List Nat:=fun i=>[[],[],[],[],[],[],[],[],[10,11],[],[12,13,14],[],[15],[],[16],[]].getD i []
theorem QpB:Qp Tryz.prog (fun _=>false) QpG 98=some Qb7:=by kernel_rfl
theorem QpN:Qg Tryz.prog 98=true:=by kernel_rfl
def QbB:Nat→List Nat:=fun i=>[[],[],[],[],[8,9,10,11],[],[12,13],[],[],[],[17,18,19,20,21,22,23,24,25,26,27,28],[0,0,3,0,3,3,3,3,3,0,3,3,2],[29,30,31,32],[],[33],[]].getD i []
theorem QkY:Qp Tryz.prog (fun _=>false) QbB 99=some Qc6:=by kernel_rfl
theorem Qlm:Qg Tryz.prog 99=true:=by kernel_rfl
theorem Qso:(rngOf Tryz.prog 99 0).map (fun r=>(Q0 Tryz.prog 34 (fun _=>false) QbB (rngA r),QsG (rngA r)))=some (some Qip,true):=by kernel_rfl
theorem Qsn:(rngOf Tryz.prog 99 0).map (fun r=>(Q0 Tryz.prog 34 (fun _=>false) QbB (rngB r),QsG (rngB r)))=some (some Qio,true):=by kernel_rfl
def QsB:Nat→List Nat:=fun i=>[[],[],[3],[],[6],[],[7],[],[8],[],[10],[],[11,12,13],[],[15],[],[16,17,18],[],[19],[],[20],[]].getD i []
theorem Qsw:Qp Tryz.prog (fun _=>false) QsB 100=some Qft:=by kernel_rfl
theorem QsL:Qg Tryz.prog 100=true:=by kernel_rfl
def QhP:Nat→List Nat:=fun i=>[[],[],[5,6,7],[]].getD i []
theorem QhJ:Qp Tryz.prog (fun _=>false) QhP 101=some Qau:=by kernel_rfl
theorem QhW:Qg Tryz.prog 101=true:=by kernel_rfl
def QnW:Nat→List Nat:=fun i=>[[],[],[3,4],[]].getD i []
theorem QnM:Qp Tryz.prog (fun _=>false) QnW 102=some strconv_Itoa:=by kernel_rfl
theorem Qn6:Qg Tryz.prog 102=true:=by kernel_rfl
def QsA:Nat→List Nat:=fun i=>[[],[],[3,4,5],[]].getD i []
theorem Qsv:Qp Tryz.prog (fun _=>false) QsA 103=some Qfs:=by kernel_rfl
theorem QsK:Qg Tryz.prog 103=true:=by kernel_rfl
def YZ:Nat→List Nat:=fun i=>[[],[],[6],[],[],[],[10],[],[11,12,13,14,15],[],[17],[],[18],[],[],[]].getD i []
theorem YW:Qp Tryz.prog (fun _=>false) YZ 109=some QR:=by kernel_rfl
theorem Y2:Qg Tryz.prog 109=true:=by kernel_rfl
def Y0:Nat→List Nat:=fun i=>[[],[],[6],[],[],[],[10],[],[11,12,13,14,15],[],[17],[],[18],[],[],[]].getD i []
theorem YX:Qp Tryz.prog (fun _=>false) Y0 110=some QT:=by kernel_rfl
theorem Y3:Qg Tryz.prog 110=true:=by kernel_rfl
def QuI:Nat→List Nat:=fun i=>[[],[],[10],[],[11,12,13],[],[14,15,16],[],[17,18,19],[],[20,21,22,23],[],[24,25,26,27,28,29],[],[30,31,32],[],[33,34,35,36,37,38],[],[39],[],[40,41,42,43,44,45,46,47,48,49,50,51,52,53,54,55,56,57,58,59,60,61,62,63,64,65,66,67,68,69,70,71,72,73,74,75,76,77,78,79,80,81,82,83,84,85,86,87,88,89,90,91,92,93,94,95,96,97,98,99,100,101,102,103,104,105,106,107,108,109,110,111,112,113,114,115,116,117,118,119,120,121,122,123,124,125,126,127,128,129,130,131,132,133,134,135,136,137,138,139,140,141,142,143,144,145,146,147,148,149,150,151,152,153,154,155,156,157,158,159,160,161,162,163,164,165,166,167,168,169,170],[0,1,0,1,0,1,0,1,0,1,0,1,0,1,0,1,0,1,0,1,0,1,0,1,0,1,0,1,0,1,0,1,0,1,0,1,0,1,0,1,0,1,0,1,0,1,0,1,0,1,0,1,0,1,0,1,0,1,0,1,0,1,0,1,0,1,0,1,0,1,0,1,0,1,0,1,0,1,0,1,0,1,0,1,0,1,0,1,0,1,0,1,0,1,0,1,0,1,0,1,0,1,0,1,0,1,0,1,0,1,0,1,0,1,0,1,0,1,0,1,0,1,0,1,0,1,0,1,0,2,3,2]].getD i []
theorem QuC:Qp Tryz.prog (fun _=>false) QuI 111=some Qo6:=by kernel_rfl
theorem QuZ:Qg Tryz.prog 111=true:=by kernel_rfl
def Qac:Nat→List Nat:=fun i=>[[],[],[6],[],[],[],[10],[],[11,12,13,14,15],[],[17],[],[18],[],[],[]].getD i []
theorem Qab:Qp Tryz.prog (fun _=>false) Qac 112=some QB:=by kernel_rfl
theorem Qad:Qg Tryz.prog 112=true:=by kernel_rfl
def QnZ:Nat→List Nat:=fun i=>[[],[],[4,5,6,7,8,9,10,11,12,13,14,15,16,17],[]].getD i []
theorem QnP:Qp Tryz.prog (fun _=>false) QnZ 113=some ZI:=by kernel_rfl
theorem Qn9:Qg Tryz.prog 113=true:=by kernel_rfl
def Qla:Nat→List Nat:=fun i=>[[],[],[],[],[8],[],[],[],[13,14],[],[15,16,17,18,19,20,21,22,23],[3,3,0,3,0,3,1,3,3,3],[24],[],[25,26,27,28],[],[29],[],[31,32,33,34,35,36,37,38,39],[3,0,1,3,3,0,2,3,3,3],[40],[]].getD i []
theorem QkZ:Qp Tryz.prog (fun _=>false) Qla 114=some Zj:=by kernel_rfl
theorem Qln:Qg Tryz.prog 114=true:=by kernel_rfl
def Qq7:Nat→List Nat:=fun i=>[[],[],[5,6,7,8,9,10,11,12,13],[3,3,0,3,3,0,3,3,3,3]].getD i []
theorem QqX:Qp Tryz.prog (fun _=>false) Qq7 115=some QdE:=by kernel_rfl
theorem Qrw:Qg Tryz.prog 115=true:=by kernel_rfl
def QhQ:Nat→List Nat:=fun i=>[[],[],[7,8,9,10,11,12,13,14,15],[],[16],[],[17,18,19,20,21,22,23,24,25,26,27,28,29,30,31],[]].getD i []
theorem QhK:Qp Tryz.prog (fun _=>false) QhQ 116=some Qay:=by kernel_rfl
theorem QhX:Qg Tryz.prog 116=true:=by kernel_rfl
def Qe7:Nat→List Nat:=fun i=>[[],[],[8,9,10,11,12,13,14,15],[],[16,17,18,19,20,21,22,23,24,25,26,27,28,29,30,31,32],[],[],[],[35,36,34,37,38],[],[39,40,41,42],[],[],[],[44,45,46],[],[],[],[48],[],[51],[],[],[],[53],[],[54],[],[55,56,57],[],[],[]].getD i []
theorem QeZ:Qp Tryz.prog (fun _=>false) Qe7 117=some Y9:=by kernel_rfl
theorem Qff:Qg Tryz.prog 117=true:=by kernel_rfl
def Qes:Nat→List Nat:=fun i=>[[],[],[8,9,10,11,12,13,14,15],[],[17,18],[],[19,20,21,22,23],[],[24,25,26,27,28,29,30,31,32,33,34,35,36,37,38,39,40,41,42,43,44,45,46,47,48,49,50,51,52,53,54,55,56,57,58],[],[60,61,62],[],[63,64,65,66,67,68,69,70,71,72,73],[3,3,3,3,0,3,3,3,3,0,3,1,2],[74,75,76,77,78,79,80,81,82,83,84,85],[],[],[]].getD i []
theorem Qen:Qp Tryz.prog (fun _=>false) Qes 118=some YN:=by kernel_rfl
theorem Qez:Qg Tryz.prog 118=true:=by kernel_rfl
def Qf3:Nat→List Nat:=fun i=>[[],[],[5,6,7,8,9,10,11,12,13,14,15,16,17,18,19,20,21,22],[]].getD i []
theorem QfY:Qp Tryz.prog (fun _=>false) Qf3 119=some Zo:=by kernel_rfl
theorem Qf8:Qg Tryz.prog 119=true:=by kernel_rfl
def QhS:Nat→List Nat:=fun i=>[[],[],[7,8,9,10,11,12,13,14,15,16,17,18,19,20,21,22,23,24],[],[],[],[26,27,28,29,30],[],[],[],[31],[],[33,34,35,36,37,38,39,40],[],[41,42,43,44,45,46],[],[48,49,50,51,52],[],[53,54],[],[55,56,57,58],[]].getD i []
theorem QhM:Qp Tryz.prog (fun _=>false) QhS 120=some QaA:=by kernel_rfl
theorem QhZ:Qg Tryz.prog 120=true:=by kernel_rfl
def Qf2:Nat→List Nat:=fun i=>[[3,4],[],[5,6,7,8,9,10],[]].getD i []
theorem QfX:Qp Tryz.prog (fun _=>false) Qf2 121=some Zn:=by kernel_rfl
theorem Qf7:Qg Tryz.prog 121=true:=by kernel_rfl
def Qm5:Nat→List Nat:=fun i=>[[],[],[6,7],[],[8],[],[],[],[13,14],[],[15,16,17,18],[],[19],[],[20],[]].getD i []
theorem QmW:Qp Tryz.prog (fun _=>false) Qm5 122=some ZS:=by kernel_rfl
theorem Qnh:Qg Tryz.prog 122=true:=by kernel_rfl
def QuH:Nat→List Nat:=fun i=>[[],[],[11,12,13,14,15,16,17,18,19,20,21,22,23,24],[0,3,3,3,3,0,3,3,3,0,3,1,1,3,2]].getD i []
theorem QuB:Qp Tryz.prog (fun _=>false) QuH 127=some Qo5:=by kernel_rfl
theorem QuY:Qg Tryz.prog 127=true:=by kernel_rfl
def Qe8:Nat→List Nat:=fun i=>[[],[],[6,7,8,9,10,11,12,13],[]].getD i []
theorem Qe0:Qp Tryz.prog (fun _=>false) Qe8 128=some Za:=by kernel_rfl
theorem Qfg:Qg Tryz.prog 128=true:=by kernel_rfl
def QbA:Nat→List Nat:=fun i=>[[],[],[5,6,7,8],[]].getD i []
theorem Qby:Qp Tryz.prog (fun _=>false) QbA 129=some Xr:=by kernel_rfl
theorem QbD:Qg Tryz.prog 129=true:=by kernel_rfl
def Qet:Nat→List Nat:=fun i=>[[],[],[5,6,7,8,9,10,11,12,13,14,15,16,17,18,19,20,21,22],[]].getD i []
theorem Qeo:Qp Tryz.prog (fun _=>false) Qet 130=some YO:=by kernel_rfl
theorem QeA:Qg Tryz.prog 130=true:=by kernel_rfl
def QsC:Nat→List Nat:=fun i=>[[],[],[9,10,8,11,12,4],[],[14,15,16,13,17,18,7],[],[19,20,21,22,23,24,25,26,27,28,29,30],[],[],[],[32,33],[]].getD i []
theorem Qsx:Qp Tryz.prog (fun _=>false) QsC 131=some Qmk:=by kernel_rfl
theorem QsM:Qg Tryz.prog 131=true:=by kernel_rfl
def QuJ:Nat→List Nat:=fun i=>[[],[],[7,8,6,9,10,3],[],[11],[],[],[],[13,14,15,16,17],[],[18,19],[],[20,21],[],[22,23],[]].getD i []
theorem QuD:Qp Tryz.prog (fun d=>List.contains [17,19,21,23] d) QuJ 132=some Qo7:=by kernel_rfl
theorem Qu0:Qg Tryz.prog 132=true:=by kernel_rfl
def Qm7:Nat→List Nat:=fun i=>[[],[],[3,4,5,6,7,8,9,10,11,12,13,14],[]].getD i []
theorem QmY:Qp Tryz.prog (fun _=>false) Qm7 133=some Qd8:=by kernel_rfl
theorem Qnj:Qg Tryz.prog 133=true:=by kernel_rfl
def Qf4:Nat→List Nat:=fun i=>[[],[],[5,6,7,8,9,10,11,12,13,14,15,16,17,18,19],[]].getD i []
theorem QfZ:Qp Tryz.prog (fun _=>false) Qf4 134=some Zp:=by kernel_rfl
theorem Qf9:Qg Tryz.prog 134=true:=by kernel_rfl
def QcJ:Nat→List Nat:=fun i=>[[],[],[4,5,6,7],[]].getD i []
theorem QcG:Qp Tryz.prog (fun _=>false) QcJ 135=some XV:=by kernel_rfl
theorem QcM:Qg Tryz.prog 135=true:=by kernel_rfl
def QhT:Nat→List Nat:=fun i=>[[],[],[8,9,10,11,12,13,14,15,16,17,18,19],[],[20,21,22,23,24,25,26,27],[],[],[],[29],[],[],[],[34,35,36],[],[37,38,39,40,41,42,43,44,45,46],[],[],[],[48],[],[],[]].getD i []
theorem QhN:Qp Tryz.prog (fun _=>false) QhT 136=some QaB:=by kernel_rfl
theorem Qh0:Qg Tryz.prog 136=true:=by kernel_rfl
def QiT:Nat→List Nat:=fun i=>[[],[],[3,4,5,6,7,8,9,10],[]].getD i []
theorem QiQ:Qp Tryz.prog (fun _=>false) QiT 137=some Qbp:=by kernel_rfl
theorem QiY:Qg Tryz.prog 137=true:=by kernel_rfl
def Qcu:Nat→List Nat:=fun i=>[[],[],[8,9,10],[],[11],[],[13],[],[14,15],[],[16,17,18],[],[20,21],[],[22,23,24,25],[],[26,27,28],[],[30,31,32,33],[],[34,35],[],[36,37,38],[],[39,40,41],[]].getD i []
theorem Qcs:Qp Tryz.prog (fun _=>false) Qcu 138=some XH:=by kernel_rfl
theorem Qcy:Qg Tryz.prog 138=true:=by kernel_rfl
def QdT:Nat→List Nat:=fun i=>[[],[],[6,7],[],[9],[],[],[],[10,11,12],[],[14,15],[],[16,17,18,19,20,21,22,23,24],[3,3,3,0,3,3,3,3,0,3],[26,27,28],[],[],[],[29,30,31],[],[33,34],[],[35,36,37,38,39,40,41,42,43],[3,3,3,0,3,3,3,3,0,3],[45,46,47,48,49,50,51],[],[52,53],[],[54,55,56],[],[57,58,59],[],[60],[]].getD i []
theorem QdS:Qp Tryz.prog (fun _=>false) QdT 139=some Yi:=by kernel_rfl
theorem QdX:Qg Tryz.prog 139=true:=by kernel_rfl
def Qfa:Nat→List Nat:=fun i=>[[],[],[4,5,6,7,8,9,10,11,12],[]].getD i []
theorem Qe2:Qp Tryz.prog (fun _=>false) Qfa 140=some Zc:=by kernel_rfl
theorem Qfi:Qg Tryz.prog 140=true:=by kernel_rfl
def Qct:Nat→List Nat:=fun i=>[[],[],[],[],[19,20,21],[],[22],[],[24,25,26,27],[],[28],[],[30,31,32,33],[],[34],[],[36,37,38,39],[],[40,41],[],[43,44,45,46,42,47,48],[],[49],[],[51,52,53,54],[],[55,56,57,58,59,60],[],[],[],[61,62,63,64,65,66,67],[],[69,70,71],[],[73,74,75,76,77,78,79,80,81,82,83,84,85,86],[3,3,3,3,3,3,3,0,3,3,3,0,2,3,3],[88,89,90,91,92],[],[93],[],[95,96,97,98,99,94,100,101],[],[102],[],[103,104,105,106,107,108],[],[109,110],[],[111,112],[],[114,115,116],[],[117,118,119,120,121],[],[122,123],[],[124,125,126],[],[127,128,129,130,131,132],[],[133],[]].getD i []
theorem Qcr:Qp Tryz.prog (fun _=>false) Qct 141=some XG:=by kernel_rfl
theorem Qcx:Qg Tryz.prog 141=true:=by kernel_rfl
def QcH:Nat→List Nat:=fun i=>[[],[],[6],[],[],[],[10],[],[11,12,13,14,15],[],[17],[],[18],[],[],[]].getD i []
theorem QcE:Qp Tryz.prog (fun _=>false) QcH 147=some XS:=by kernel_rfl
theorem QcK:Qg Tryz.prog 147=true:=by kernel_rfl
def QjU:Nat→List Nat:=fun i=>[[],[],[7,8,9,10,11,12,13,14,15,16,17,18,19,20,21,22,23,24],[3,3,3,3,3,0,3,3,3,3,3,0,3,3,0,0,3,3,3]].getD i []
theorem QjN:Qp Tryz.prog (fun _=>false) QjU 148=some Qca:=by kernel_rfl
theorem Qj4:Qg Tryz.prog 148=true:=by kernel_rfl
def Qdl:Nat→List Nat:=fun i=>[[3,4],[],[5,6,7,8,9,10],[]].getD i []
theorem Qdj:Qp Tryz.prog (fun d=>List.contains [10] d) Qdl 149=some X2:=by kernel_rfl
theorem Qdo:Qg Tryz.prog 149=true:=by kernel_rfl
def QbR:Nat→List Nat:=fun i=>[[],[],[6,7],[],[9],[],[],[],[10,11,12],[],[14,15],[],[16,17,18,19,20,21,22,23,24],[3,3,3,0,3,3,3,3,0,3],[26,27,28],[],[],[],[29,30,31],[],[33,34],[],[35,36,37,38,39,40,41,42,43],[3,3,3,0,3,3,3,3,0,3],[45,46,47,48,49,50,51],[],[52,53],[],[54,55,56],[],[57,58,59],[],[60],[]].getD i []
theorem QbP:Qp Tryz.prog (fun _=>false) QbR 150=some Xy:=by kernel_rfl
theorem QbT:Qg Tryz.prog 150=true:=by kernel_rfl
def QaJ:Nat→List Nat:=fun i=>[[],[],[8,9,10],[],[11],[],[13],[],[14,15],[],[16,17,18],[],[20,21],[],[22,23,24,25],[],[26,27,28],[],[30,31,32,33],[],[34,35],[],[36,37,38],[],[39,40,41],[]].getD i []
theorem QaI:Qp Tryz.prog (fun _=>false) QaJ 151=some Xj:=by kernel_rfl
theorem QaK:Qg Tryz.prog 151=true:=by kernel_rfl
def QpH:Nat→List Nat:=fun i=>[[],[],[3,4],[]].getD i []
theorem QpC:Qp Tryz.prog (fun _=>false) QpH 152=some Qhx:=by kernel_rfl
theorem QpO:Qg Tryz.prog 152=true:=by kernel_rfl
def QcI:Nat→List Nat:=fun i=>[[],[],[6],[],[],[],[10],[],[11,12,13,14,15],[],[17],[],[18],[],[],[]].getD i []
theorem QcF:Qp Tryz.prog (fun _=>false) QcI 153=some XT:=by kernel_rfl
theorem QcL:Qg Tryz.prog 153=true:=by kernel_rfl
def Z6:Nat→List Nat:=fun i=>[[8,9],[],[10,11],[],[13,14],[],[15],[],[16,17,18,19,20,21,22,23,24,25,26,27,28,29],[3,3,3,3,3,3,3,0,3,3,3,3,0,2,3],[31,32],[],[33,34,35,36,37,38,39,40,41,42,43,44,45,46,47,48],[3,3,3,3,3,3,3,3,3,0,3,3,3,0,3,2,3,2]].getD i []
theorem Z4:Qp Tryz.prog (fun _=>false) Z6 154=some Xa:=by kernel_rfl
theorem Z8:Qg Tryz.prog 154=true:=by kernel_rfl
def Qn4:Nat→List Nat:=fun i=>[[],[],[5,6,7,8,9,10,11,12,13,14,15,16],[]].getD i []
theorem QnU:Qp Tryz.prog (fun _=>false) Qn4 160=some cmp_Less_int:=by kernel_rfl
theorem Qoe:Qg Tryz.prog 160=true:=by kernel_rfl
def Qbz:Nat→List Nat:=fun i=>[[],[],[],[],[19,20,21],[],[22],[],[24,25,26,27],[],[28],[],[30,31,32,33],[],[34],[],[36,37,38,39],[],[40,41],[],[43,44,45,46,42,47,48],[],[49],[],[51,52,53,54],[],[55,56,57,58,59,60],[],[],[],[61,62,63,64,65,66,67],[],[69,70,71],[],[73,74,75,76,77,78,79,80,81,82,83,84,85,86],[3,3,3,3,3,3,3,0,3,3,3,0,2,3,3],[88,89,90,91,92],[],[93],[],[95,96,97,98,99,94,100,101],[],[102],[],[103,104,105,106,107,108],[],[109,110],[],[111,112],[],[114,115,116],[],[117,118,119,120,121],[],[122,123],[],[124,125,126],[],[127,128,129,130,131,132],[],[133],[]].getD i []
theorem Qbx:Qp Tryz.prog (fun d=>List.contains [27] d) Qbz 167=some Xq:=by kernel_rfl
theorem QbC:Qg Tryz.prog 167=true:=by kernel_rfl
def Qbf:Nat→List Nat:=fun i=>[[],[],[6],[],[],[],[10],[],[11,12,13,14,15],[],[17],[],[18],[],[],[]].getD i []
theorem Qbc:Qp Tryz.prog (fun _=>false) Qbf 168=some Xn:=by kernel_rfl
theorem Qbj:Qg Tryz.prog 168=true:=by kernel_rfl
def Zv:Nat→List Nat:=fun i=>[[8,9],[],[10,11],[],[13,14],[],[15],[],[16,17,18,19,20,21,22,23,24,25,26,27,28,29],[3,3,3,3,3,3,3,0,3,3,3,3,0,2,3],[31,32],[],[33,34,35,36,37,38,39,40,41,42,43,44,45,46,47,48],[3,3,3,3,3,3,3,3,3,0,3,3,3,0,3,2,3,2]].getD i []
theorem Zu:Qp Tryz.prog (fun _=>false) Zv 174=some QY:=by kernel_rfl
theorem Zw:Qg Tryz.prog 174=true:=by kernel_rfl
def Qli:Nat→List Nat:=fun i=>[[],[],[5,6,7,8,9,10,11,12,13,14,15,16],[]].getD i []
theorem Qk7:Qp Tryz.prog (fun _=>false) Qli 180=some Qdn:=by kernel_rfl
theorem Qlv:Qg Tryz.prog 180=true:=by kernel_rfl
theorem QFJ:Qn Tryz.prog tab0:=fun f A h=>by
 unfold tab0 at h
 split at h
 ·cases h; exact ⟨QbU,_,_,QbQ⟩
 ·cases h; exact ⟨Qfk,_,_,Qe4⟩
 ·cases h; exact ⟨Qfl,_,_,Qe5⟩
 ·cases h; exact ⟨QgP,_,_,QgJ⟩
 ·cases h; exact ⟨Qni,_,_,QmX⟩
 ·cases h; exact ⟨QeB,_,_,Qep⟩
 ·cases h; exact ⟨QpP,_,_,QpD⟩
 ·cases h; exact ⟨Qdp,_,_,Qdk⟩
 ·cases h; exact ⟨QuX,_,_,QuA⟩
 ·cases h; exact ⟨Qob,_,_,QnR⟩
 ·cases h; exact ⟨QrA,_,_,Qq1⟩
 ·cases h; exact ⟨Qfj,_,_,Qe3⟩
 ·cases h; exact ⟨b_proofmarklaw25_holds,_,_,e_proofmarklaw25_holds⟩
 ·cases h; exact ⟨Qfm,_,_,Qe6⟩
 ·cases h; exact ⟨QrB,_,_,Qq2⟩
 ·cases h; exact ⟨Qu1,_,_,QuE⟩
 ·cases h; exact ⟨Qh1,_,_,QhO⟩
 ·cases h; exact ⟨Qgb,_,_,Qf1⟩
 ·cases h; exact ⟨Y4,_,_,YY⟩
 ·cases h; exact ⟨Yt,_,_,Yn⟩
 ·cases h; exact ⟨YB,_,_,Yz⟩
 ·cases h; exact ⟨QeC,_,_,Qeq⟩
 ·cases h; exact ⟨Qrx,_,_,QqY⟩
 ·cases h; exact ⟨X5,_,_,X3⟩
 ·cases h; exact ⟨Qlo,_,_,Qk0⟩
 ·cases h; exact ⟨QiX,_,_,QiP⟩
 ·cases h; exact ⟨Qrz,_,_,Qq0⟩
 ·cases h; exact ⟨QgQ,_,_,QgK⟩
 ·cases h; exact ⟨Qj3,_,_,QjM⟩
 ·cases h; exact ⟨Qoa,_,_,QnQ⟩
 ·cases h; exact ⟨Qbl,_,_,Qbe⟩
 ·cases h; exact ⟨Qbk,_,_,Qbd⟩
 ·cases h; exact ⟨Qj2,_,_,QjL⟩
 ·cases h; exact ⟨Qll,_,_,QkX⟩
 ·cases h; exact ⟨Qga,_,_,Qf0⟩
 ·cases h; exact ⟨Qj1,_,_,QjK⟩
 ·cases h; exact ⟨QeD,_,_,Qer⟩
 ·cases h; exact ⟨Qnm,_,_,Qm1⟩
 ·cases h; exact ⟨Qnl,_,_,Qm0⟩
 ·cases h; exact ⟨Yc,_,_,X8⟩
 ·cases h; exact ⟨QpQ,_,_,QpE⟩
 ·cases h; exact ⟨Qoc,_,_,QnS⟩
 ·cases h; exact ⟨QsN,_,_,Qsy⟩
 ·cases h; exact ⟨Qry,_,_,QqZ⟩
 ·cases h; exact ⟨Qlk,_,_,QkW⟩
 ·cases h; exact ⟨Qru,_,_,QqV⟩
 ·cases h; exact ⟨Qrv,_,_,QqW⟩
 ·cases h; exact ⟨QgO,_,_,QgI⟩
 ·cases h; exact ⟨Qng,_,_,QmV⟩
 ·cases h
theorem QFI:Qn Tryz.prog tab1:=fun f A h=>by
 unfold tab1 at h
 split at h
 ·cases h; exact ⟨Qj6,_,_,QjP⟩
 ·cases h; exact ⟨Qj5,_,_,QjO⟩
 ·cases h; exact ⟨Qnn,_,_,Qm2⟩
 ·cases h; exact ⟨Qj7,_,_,QjQ⟩
 ·cases h; exact ⟨Qlu,_,_,Qk6⟩
 ·cases h; exact ⟨Qlt,_,_,Qk5⟩
 ·cases h; exact ⟨Qls,_,_,Qk4⟩
 ·cases h; exact ⟨Qlr,_,_,Qk3⟩
 ·cases h; exact ⟨Qlq,_,_,Qk2⟩
 ·cases h; exact ⟨Yu,_,_,Yo⟩
 ·cases h; exact ⟨Yv,_,_,Yp⟩
 ·cases h; exact ⟨Qlp,_,_,Qk1⟩
 ·cases h; exact ⟨Qod,_,_,QnT⟩
 ·cases h; exact ⟨QsO,_,_,Qsz⟩
 ·cases h; exact ⟨Qnk,_,_,QmZ⟩
 ·cases h; exact ⟨Qfh,_,_,Qe1⟩
 ·cases h; exact ⟨QhY,_,_,QhL⟩
 ·cases h; exact ⟨QG7,_,_,QGJ⟩
 ·cases h; exact ⟨Qn8,_,_,QnO⟩
 ·cases h; exact ⟨Qn7,_,_,QnN⟩
 ·cases h; exact ⟨QpN,_,_,QpB⟩
 ·cases h; exact ⟨Qlm,_,_,QkY⟩
 ·cases h; exact ⟨QsL,_,_,Qsw⟩
 ·cases h; exact ⟨QhW,_,_,QhJ⟩
 ·cases h; exact ⟨Qn6,_,_,QnM⟩
 ·cases h; exact ⟨QsK,_,_,Qsv⟩
 ·cases h; exact ⟨Y2,_,_,YW⟩
 ·cases h; exact ⟨Y3,_,_,YX⟩
 ·cases h; exact ⟨QuZ,_,_,QuC⟩
 ·cases h; exact ⟨Qad,_,_,Qab⟩
 ·cases h; exact ⟨Qn9,_,_,QnP⟩
 ·cases h; exact ⟨Qln,_,_,QkZ⟩
 ·cases h; exact ⟨Qrw,_,_,QqX⟩
 ·cases h; exact ⟨QhX,_,_,QhK⟩
 ·cases h; exact ⟨Qff,_,_,QeZ⟩
 ·cases h; exact ⟨Qez,_,_,Qen⟩
 ·cases h; exact ⟨Qf8,_,_,QfY⟩
 ·cases h; exact ⟨QhZ,_,_,QhM⟩
 ·cases h; exact ⟨Qf7,_,_,QfX⟩
 ·cases h; exact ⟨Qnh,_,_,QmW⟩
 ·cases h; exact ⟨QuY,_,_,QuB⟩
 ·cases h; exact ⟨Qfg,_,_,Qe0⟩
 ·cases h; exact ⟨QbD,_,_,Qby⟩
 ·cases h; exact ⟨QeA,_,_,Qeo⟩
 ·cases h; exact ⟨QsM,_,_,Qsx⟩
 ·cases h; exact ⟨Qu0,_,_,QuD⟩
 ·cases h; exact ⟨Qnj,_,_,QmY⟩
 ·cases h; exact ⟨Qf9,_,_,QfZ⟩
 ·cases h; exact ⟨QcM,_,_,QcG⟩
 ·cases h; exact ⟨Qh0,_,_,QhN⟩
 ·cases h; exact ⟨QiY,_,_,QiQ⟩
 ·cases h; exact ⟨Qcy,_,_,Qcs⟩
 ·cases h; exact ⟨QdX,_,_,QdS⟩
 ·cases h; exact ⟨Qfi,_,_,Qe2⟩
 ·cases h; exact ⟨Qcx,_,_,Qcr⟩
 ·cases h
theorem QFH:Qn Tryz.prog tab2:=fun f A h=>by
 unfold tab2 at h
 split at h
 ·cases h; exact ⟨QcK,_,_,QcE⟩
 ·cases h; exact ⟨Qj4,_,_,QjN⟩
 ·cases h; exact ⟨Qdo,_,_,Qdj⟩
 ·cases h; exact ⟨QbT,_,_,QbP⟩
 ·cases h; exact ⟨QaK,_,_,QaI⟩
 ·cases h; exact ⟨QpO,_,_,QpC⟩
 ·cases h; exact ⟨QcL,_,_,QcF⟩
 ·cases h; exact ⟨Z8,_,_,Z4⟩
 ·cases h; exact ⟨Qoe,_,_,QnU⟩
 ·cases h; exact ⟨QbC,_,_,Qbx⟩
 ·cases h; exact ⟨Qbj,_,_,Qbc⟩
 ·cases h; exact ⟨Zw,_,_,Zu⟩
 ·cases h; exact ⟨Qlv,_,_,Qk7⟩
 ·cases h
theorem Ql4:Qn Tryz.prog tab:=fun f A h=>by
 unfold tab at h
 split at h
 ·exact QFJ f A h
 split at h
 ·exact QFI f A h
 exact QFH f A h
end Go.Proofs.YtfgccihafnjalaaGreatDoor

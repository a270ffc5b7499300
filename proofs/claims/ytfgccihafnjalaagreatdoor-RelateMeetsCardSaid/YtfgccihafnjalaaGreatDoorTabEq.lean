/- The translations are so. -/
import Derived.Test.YtfgccihafnjalaaGreatDoorTabB
import Derived.Test.YtfgccihafnjalaaGreatDoorProg
namespace Go.Proofs.YtfgccihafnjalaaGreatDoor
open Go Go.Am
set_option maxRecDepth 100000
def Qa2:Nat→List Nat:=fun i=>[[],[],[9,10,11,12,13,14,15,16,17,18,19,20],[],[22],[],[23,24,25,26,27,28],[],[29,30,31,32,33,34,35,36,37,38,39,40,41,42,43,44,45,46,47,48,49,50,51,52,53,54,55,56,57,58,59,60,61,62,63],[],[],[],[65,66,67,68,69,70,71,72,73,74,75,76,77,78,79,80,81,82,83,84,85,86,87,88,89],[],[],[],[91,92,93,94,95,96,97,98,99,100,101,102,103],[]].getD i []
theorem Qa0:Qn Tryz.prog (fun _=>false) Qa2 4=some Qd:=by kernel_rfl
theorem Qa4:Qg Tryz.prog 4=true:=by kernel_rfl
def Qeb:Nat→List Nat:=fun i=>[[],[],[8,9,10],[],[11,12,13,14,15,16,17,18,19,20,21],[],[22],[],[24,25,26,27,28,29,30,31,32,33,34,35,23,36,37,7],[3,0,3,0,3,0,3,0,3,2,1,2,3,3,3,1,2,3],[38,39,40,41,42,43,44,45,46,47,48,49,50,51,52,53,54,55,56,57,58,59,60,61,62,63,64,65,66,67,68,69,70,71,72,73,74,75,76,77,78,79,80,81,82,83,84,85,86,87,88,89,90,91,92,93,94,95,96,97,98,99,100,101,102,103,104,105,106,107,108,109,110,111,112,113,114,115,116],[3,3,3,3,3,3,0,0,3,3,3,3,3,0,3,3,3,3,3,3,0,3,3,3,3,3,0,3,0,3,0,3,0,3,3,3,3,0,3,0,3,3,3,0,3,3,3,3,0,3,0,3,3,0,3,0,3,3,3,3,1,3,1,3,2,3,3,3,3,3,0,3,0,3,0,3,0,3,3,3]].getD i []
theorem Qd5:Qn Tryz.prog (fun d=>List.contains [35,102] d) Qeb 8=some proofmarklaw25_works:=by kernel_rfl
theorem Qeh:Qg Tryz.prog 8=true:=by kernel_rfl
def Qec:Nat→List Nat:=fun i=>[[],[],[],[],[],[],[5,6,7],[],[9,10],[],[11,12,13,14,15,16,17,18,19,20,21,22,23,24,25,26,27,28,29,30,31],[3,3,3,3,3,0,3,3,3,3,3,0,3,3,3,3,3,0,3,2,2,3],[32],[]].getD i []
theorem Qd6:Qn Tryz.prog (fun _=>false) Qec 9=some Xh:=by kernel_rfl
theorem Qei:Qg Tryz.prog 9=true:=by kernel_rfl
def Qe1:Nat→List Nat:=fun i=>[[],[],[7,8],[],[9,10,11,12],[],[],[],[],[],[14,15,16],[],[18,19],[],[20,21,22,23,24,25,26,27],[3,3,3,0,3,3,3,0,3],[],[],[],[]].getD i []
theorem QeX:Qn Tryz.prog (fun _=>false) Qe1 11=some Q8:=by kernel_rfl
theorem Qe5:Qg Tryz.prog 11=true:=by kernel_rfl
def QkZ:Nat→List Nat:=fun i=>[[],[],[4,5],[],[6,7],[],[8,9],[]].getD i []
theorem QkP:Qn Tryz.prog (fun _=>false) QkZ 12=some Zw:=by kernel_rfl
theorem Qlf:Qg Tryz.prog 12=true:=by kernel_rfl
def Qnq:Nat→List Nat:=fun i=>[[],[],[6,7],[],[8,9,10,11],[]].getD i []
theorem Qnl:Qn Tryz.prog (fun _=>false) Qnq 14=some Qbe:=by kernel_rfl
theorem Qnx:Qg Tryz.prog 14=true:=by kernel_rfl
def QkY:Nat→List Nat:=fun i=>[[],[],[6,7],[],[8,9,10,11],[]].getD i []
theorem QkO:Qn Tryz.prog (fun _=>false) QkY 16=some Zv:=by kernel_rfl
theorem Qle:Qg Tryz.prog 16=true:=by kernel_rfl
def Qcs:Nat→List Nat:=fun i=>[[],[],[7,8,9],[],[10,11,12],[],[13],[],[15,16,17,18,19,20,21,22,23],[],[25,26,27,24,28,29,6],[],[30,31],[],[33],[],[34,35,36],[]].getD i []
theorem Qcq:Qn Tryz.prog (fun _=>false) Qcs 17=some XR:=by kernel_rfl
theorem Qcv:Qg Tryz.prog 17=true:=by kernel_rfl
def Qsa:Nat→List Nat:=fun i=>[[],[],[1,2,3],[]].getD i []
theorem Qr4:Qn Tryz.prog (fun _=>false) Qsa 18=some QgF:=by kernel_rfl
theorem Qsr:Qg Tryz.prog 18=true:=by kernel_rfl
def QlY:Nat→List Nat:=fun i=>[[],[],[31,32,33,34,35,30,36,37],[],[38,39,40,41,42],[0,3,1,0,3,1,2],[43,44],[],[45,46,47,48],[],[],[],[],[],[53,54],[],[55,56,57,58,59,60,61,62],[],[63],[],[64],[],[],[],[],[],[69,70],[],[71,72,73,74,75],[],[77,78,79,76,80,81,24],[],[82,83,84,85,86,87,88],[],[90,91,92,93,94,95,96],[1,1,0,3,3,0,2,2],[97],[],[98],[],[99,100,101,102],[],[103,104],[],[],[],[108],[],[109,110,111,112,113,114,115,116],[3,1,3,3,3,3,2,3,2],[117],[],[],[],[],[],[122,123],[],[124,125],[],[128],[],[129,130,131,132,133,134,135,136,137,138,139],[3,3,1,3,3,0,3,2,3,3,3,2],[141],[],[142,143,144,145,146,147,148,149,150,151,152,153],[3,3,1,3,3,1,3,3,0,3,2,3,2],[154],[],[155,156],[0,1,2,3]].getD i []
theorem QlO:Qn Tryz.prog (fun d=>List.contains [35,62,96,101,115,136,152] d) QlY 19=some relate_Fresh:=by kernel_rfl
theorem Ql8:Qg Tryz.prog 19=true:=by kernel_rfl
def QoL:Nat→List Nat:=fun i=>[[],[],[5,6,7,8],[]].getD i []
theorem QoB:Qn Tryz.prog (fun _=>false) QoL 20=some QcT:=by kernel_rfl
theorem Qo9:Qg Tryz.prog 20=true:=by kernel_rfl
def QoM:Nat→List Nat:=fun i=>[[],[],[13,14],[],[15],[],[16,17,18,19],[],[],[],[],[],[22],[],[],[],[24,25,26,27,28],[],[30],[],[31,32,33,34,35],[],[37],[],[38,39,40],[],[41],[],[42,43,44,45,46,47],[],[],[],[51,52,53,54,55,56,57],[3,1,3,2,1,2,3,2],[58],[],[59,60],[0,1,2,3]].getD i []
theorem QoC:Qn Tryz.prog (fun d=>List.contains [26,33,54] d) QoM 24=some QcX:=by kernel_rfl
theorem Qpa:Qg Tryz.prog 24=true:=by kernel_rfl
def Qse:Nat→List Nat:=fun i=>[[],[],[5,6,7,8],[]].getD i []
theorem Qr8:Qn Tryz.prog (fun _=>false) Qse 25=some QgV:=by kernel_rfl
theorem Qsv:Qg Tryz.prog 25=true:=by kernel_rfl
def YK:Nat→List Nat:=fun i=>[[],[],[3],[],[],[],[5,6,7],[]].getD i []
theorem YH:Qn Tryz.prog (fun _=>false) YK 29=some Qq:=by kernel_rfl
theorem YN:Qg Tryz.prog 29=true:=by kernel_rfl
def Yd:Nat→List Nat:=fun i=>[[5,6],[],[7,8,9,10,11,12,13],[]].getD i []
theorem Ya:Qn Tryz.prog (fun _=>false) Yd 30=some QK:=by kernel_rfl
theorem Yg:Qg Tryz.prog 30=true:=by kernel_rfl
def Yo:Nat→List Nat:=fun i=>[[],[],[6,7],[],[9],[],[],[],[10,11,12],[],[14,15],[],[16,17,18,19,20,21,22,23,24],[3,3,3,0,3,3,3,3,0,3],[26,27,28],[],[],[],[29,30,31],[],[33,34],[],[35,36,37,38,39,40,41,42,43],[3,3,3,0,3,3,3,3,0,3],[45,46,47,48,49,50,51],[],[52,53],[],[54,55,56],[],[57,58,59],[],[60],[]].getD i []
theorem Yn:Qn Tryz.prog (fun _=>false) Yo 32=some Ql:=by kernel_rfl
theorem Yp:Qg Tryz.prog 32=true:=by kernel_rfl
def QoI:Nat→List Nat:=fun i=>[[],[],[6],[],[],[],[],[],[11,12],[],[13,14],[],[15],[],[16],[]].getD i []
theorem Qoy:Qn Tryz.prog (fun _=>false) QoI 34=some QcR:=by kernel_rfl
theorem Qo6:Qg Tryz.prog 34=true:=by kernel_rfl
def XT:Nat→List Nat:=fun i=>[[],[],[8,9,10],[],[11],[],[13],[],[14,15],[],[16,17,18],[],[20,21],[],[22,23,24,25],[],[26,27,28],[],[30,31,32,33],[],[34,35],[],[36,37,38],[],[39,40,41],[]].getD i []
theorem XS:Qn Tryz.prog (fun _=>false) XT 35=some Qh:=by kernel_rfl
theorem XU:Qg Tryz.prog 35=true:=by kernel_rfl
def Qi8:Nat→List Nat:=fun i=>[[],[],[4,5,6,7],[]].getD i []
theorem QiX:Qn Tryz.prog (fun _=>false) Qi8 36=some YY:=by kernel_rfl
theorem Qjl:Qg Tryz.prog 36=true:=by kernel_rfl
def XL:Nat→List Nat:=fun i=>[[],[],[5,6,7,8],[]].getD i []
theorem XK:Qn Tryz.prog (fun _=>false) XL 37=some Qm:=by kernel_rfl
theorem XM:Qg Tryz.prog 37=true:=by kernel_rfl
def Qhi:Nat→List Nat:=fun i=>[[],[],[4,5,6,7],[]].getD i []
theorem Qhg:Qn Tryz.prog (fun _=>false) Qhi 38=some XV:=by kernel_rfl
theorem Qho:Qg Tryz.prog 38=true:=by kernel_rfl
def QoK:Nat→List Nat:=fun i=>[[],[],[8,9],[],[11],[],[],[],[12,13],[],[],[],[17],[],[19,20,21,18,22,23],[],[24,25],[],[27],[0,3,2],[28,29,30,31],[],[32],[],[33,34],[]].getD i []
theorem QoA:Qn Tryz.prog (fun d=>List.contains [30] d) QoK 39=some QhD:=by kernel_rfl
theorem Qo8:Qg Tryz.prog 39=true:=by kernel_rfl
def Qfx:Nat→List Nat:=fun i=>[[],[],[10,11],[],[],[],[12,13,14],[],[16,17],[],[18,19,20,21,22,23,24,25,26,27,28,29,30,31,32,33,34,35,36,37,38,39],[],[],[],[40,41,42,43,44,45],[],[47,48],[],[50,51,52,53,54,55,56,57,49,58,59],[],[60],[],[62,63,64,65,66,67],[],[68],[]].getD i []
theorem Qfw:Qn Tryz.prog (fun _=>false) Qfx 40=some Zx:=by kernel_rfl
theorem Qfy:Qg Tryz.prog 40=true:=by kernel_rfl
def Qh5:Nat→List Nat:=fun i=>[[],[],[5,6,7,8,9,10,11],[]].getD i []
theorem QhY:Qn Tryz.prog (fun _=>false) Qh5 41=some Yv:=by kernel_rfl
theorem Qie:Qg Tryz.prog 41=true:=by kernel_rfl
def QlX:Nat→List Nat:=fun i=>[[],[],[7,8,9,10,11,12,13,14],[],[],[],[16,17],[],[20],[],[21,22,23,24],[],[26],[],[27,28,29,30,31,32,33,34,35,36,37],[],[38,39,40,41],[]].getD i []
theorem QlN:Qn Tryz.prog (fun _=>false) QlX 42=some QW:=by kernel_rfl
theorem Ql7:Qg Tryz.prog 42=true:=by kernel_rfl
def Qat:Nat→List Nat:=fun i=>[[],[],[8,9,10,11,12,13],[0,0,1,0,0,2,1,1,2,2],[14,15],[],[17,18,19,20],[]].getD i []
theorem Qaq:Qn Tryz.prog (fun _=>false) Qat 43=some Qv:=by kernel_rfl
theorem Qaw:Qg Tryz.prog 43=true:=by kernel_rfl
def Qas:Nat→List Nat:=fun i=>[[],[],[8,9,10,11,7,12,13],[],[14],[],[16],[],[17],[]].getD i []
theorem Qap:Qn Tryz.prog (fun _=>false) Qas 44=some QE:=by kernel_rfl
theorem Qav:Qg Tryz.prog 44=true:=by kernel_rfl
def Qh4:Nat→List Nat:=fun i=>[[],[],[10,11,12],[],[14,15,16,13,17,18,8],[],[19],[],[21,22,23,24,25],[1,1,0,0,2,2],[26,27],[],[28,29,30],[]].getD i []
theorem QhX:Qn Tryz.prog (fun d=>List.contains [25] d) Qh4 45=some Yu:=by kernel_rfl
theorem Qid:Qg Tryz.prog 45=true:=by kernel_rfl
def Qi6:Nat→List Nat:=fun i=>[[],[],[12,13,14,15,16,17,18],[],[],[],[21,22,23,24,25,26,20,27,28],[3,3,3,0,0,0,3,3,3,3,3],[],[],[30],[],[31,32,33,34,35],[],[36,37,38],[],[39],[],[],[],[44,45],[],[46,47,48,49,50,51,52,53,54,55,56,57,58,59,60,61,62,63],[3,3,3,3,0,3,3,0,3,3,3,3,3,0,3,3,0,3,3,3],[64],[],[65,66,67,68,69,70,71,72,73,74,75,76,77,78,79,80,81,82],[3,3,3,3,0,1,3,3,3,0,0,1,1,3,3,3,2,2,3,2],[83,84,85,86,87,88,89,90,91,92,93,94,95,96,97,98,99,100,101,102,103,104],[3,3,3,3,3,0,3,3,1,1,3,3,3,0,3,3,1,2,3,3,2,3,3,2],[105],[]].getD i []
theorem QiU:Qn Tryz.prog (fun _=>false) Qi6 46=some YW:=by kernel_rfl
theorem Qji:Qg Tryz.prog 46=true:=by kernel_rfl
def Qk3:Nat→List Nat:=fun i=>[[],[],[3,4],[],[5,6,7,8],[]].getD i []
theorem QkT:Qn Tryz.prog (fun _=>false) Qk3 50=some Zz:=by kernel_rfl
theorem Qlj:Qg Tryz.prog 50=true:=by kernel_rfl
def Qk2:Nat→List Nat:=fun i=>[[],[],[3,4,5],[],[6,7],[]].getD i []
theorem QkS:Qn Tryz.prog (fun _=>false) Qk2 54=some Qdp:=by kernel_rfl
theorem Qli:Qg Tryz.prog 54=true:=by kernel_rfl
def XY:Nat→List Nat:=fun i=>[[],[],[6],[],[],[],[10],[],[11,12,13,14,15],[],[17],[],[18],[],[],[]].getD i []
theorem XX:Qn Tryz.prog (fun _=>false) XY 59=some Qi:=by kernel_rfl
theorem X0:Qg Tryz.prog 59=true:=by kernel_rfl
def Qnr:Nat→List Nat:=fun i=>[[],[],[7],[],[],[],[8],[],[9,10,11,12,13],[],[14,15,16],[]].getD i []
theorem Qnm:Qn Tryz.prog (fun d=>List.contains [13] d) Qnr 60=some Qgg:=by kernel_rfl
theorem Qny:Qg Tryz.prog 60=true:=by kernel_rfl
def QlZ:Nat→List Nat:=fun i=>[[],[],[17,18,19,16,20,21],[],[22,23,24,25,26,27,28,29,30,31,32],[0,3,0,3,3,3,0,3,3,3,2,3],[33],[],[34,35,36,37,38,39],[],[],[],[44,45,46],[],[48,49,47,50,51],[],[52],[],[54,55,56],[],[57,58,59,60,61,62,63,64,65,66,67,68],[3,3,3,3,3,0,0,1,2,3,3,3,2],[69],[],[70,71,72,73,74,75,76,77,78,79,80,81],[],[82,83,84,85,86],[],[],[],[90],[],[91,92,93],[],[95,96,97,98],[],[99,100,101],[],[102],[],[104,105,106,107,108],[],[109],[],[110,111,112,113,114,115,116,117,118],[],[119,120,121,122,123],[]].getD i []
theorem QlP:Qn Tryz.prog (fun _=>false) QlZ 61=some Qex:=by kernel_rfl
theorem Ql9:Qg Tryz.prog 61=true:=by kernel_rfl
def Qqc:Nat→List Nat:=fun i=>[[],[],[8,9,10,7,11,12],[],[],[],[13,14,15,16,17,18,19,20,21,22,23,24,25,26,27,28,29,30,31,32,33,34,35,36,37,38,39,40,41,42,43,44,45,46,47,48,49,50,51,52,53,54,55],[],[],[],[57,58,59,60,61],[],[],[],[63,64,65,66,67,68,69,70,71,72,73,74,75,76,77,78,79,80,81,82,83,84,85,86,87,88,89],[3,0,3,0,3,3,0,3,3,0,3,3,0,3,3,0,3,3,0,3,3,0,3,0,1,2,2,3,3]].getD i []
theorem Qp7:Qn Tryz.prog (fun _=>false) Qqc 62=some Qbd:=by kernel_rfl
theorem Qqn:Qg Tryz.prog 62=true:=by kernel_rfl
def QoJ:Nat→List Nat:=fun i=>[[],[],[3,4,5,6,7,8,9,10,11,12],[]].getD i []
theorem Qoz:Qn Tryz.prog (fun _=>false) QoJ 63=some Xo:=by kernel_rfl
theorem Qo7:Qg Tryz.prog 63=true:=by kernel_rfl
def Qi5:Nat→List Nat:=fun i=>[[],[],[5,6,7],[],[],[],[9],[],[12],[],[],[],[14],[],[15,16,17],[],[19],[],[20,21,22,23,24,25,26,27,28,29,30,31,32,33],[],[35],[],[36,37,38,39,40,41,42,43,44,45,46,47,48,49,50,51,52,53,54,55],[],[],[]].getD i []
theorem QiT:Qn Tryz.prog (fun _=>false) Qi5 64=some YV:=by kernel_rfl
theorem Qjh:Qg Tryz.prog 64=true:=by kernel_rfl
def QoF:Nat→List Nat:=fun i=>[[],[],[8,9,10],[],[11],[],[14],[],[15],[],[17],[],[18,19],[],[21],[],[22,23,24,25,26,27,28,29,30,31,32],[],[33,34,35,36,37,38,39,40,41,42,43],[]].getD i []
theorem Qov:Qn Tryz.prog (fun _=>false) QoF 65=some QcK:=by kernel_rfl
theorem Qo3:Qg Tryz.prog 65=true:=by kernel_rfl
def QoG:Nat→List Nat:=fun i=>[[],[],[3],[],[6],[],[7,8,9],[],[11],[],[12,13,14,15,16],[],[],[]].getD i []
theorem Qow:Qn Tryz.prog (fun _=>false) QoG 66=some QcL:=by kernel_rfl
theorem Qo4:Qg Tryz.prog 66=true:=by kernel_rfl
def QkW:Nat→List Nat:=fun i=>[[],[],[5,6,7,8,9,10,11,12,13,14,15,16,17,18,19],[]].getD i []
theorem QkM:Qn Tryz.prog (fun _=>false) QkW 68=some Zr:=by kernel_rfl
theorem Qlc:Qg Tryz.prog 68=true:=by kernel_rfl
def Qh8:Nat→List Nat:=fun i=>[[],[],[3],[],[5,6],[],[],[],[7],[],[9,10],[],[11,12],[],[13,14,15,16,17,18],[]].getD i []
theorem Qh1:Qn Tryz.prog (fun _=>false) Qh8 77=some Qbl:=by kernel_rfl
theorem Qih:Qg Tryz.prog 77=true:=by kernel_rfl
def Qh7:Nat→List Nat:=fun i=>[[],[],[3],[],[5,6],[],[],[],[7],[],[9,10],[],[11,12],[],[13],[],[15,16],[],[17,18],[],[19,20,21,22,23,24],[]].getD i []
theorem Qh0:Qn Tryz.prog (fun _=>false) Qh7 78=some Qbk:=by kernel_rfl
theorem Qig:Qg Tryz.prog 78=true:=by kernel_rfl
def Qk4:Nat→List Nat:=fun i=>[[],[],[3,4,5],[]].getD i []
theorem QkU:Qn Tryz.prog (fun _=>false) Qk4 79=some cmp_isNaN_int:=by kernel_rfl
theorem Qlk:Qg Tryz.prog 79=true:=by kernel_rfl
def Qh9:Nat→List Nat:=fun i=>[[],[],[3,4,5],[]].getD i []
theorem Qh2:Qn Tryz.prog (fun _=>false) Qh9 80=some QbC:=by kernel_rfl
theorem Qii:Qg Tryz.prog 80=true:=by kernel_rfl
def Qje:Nat→List Nat:=fun i=>[[],[],[7,8,9,10,11],[],[12,13,14,15,16,17,18,19,20,21,22,23,24,25,26,27,28,29,30,31,32,33,34,35,36,37,38,39,40,41,42,43,44,45,46,47,48,49],[],[50,51],[],[52],[]].getD i []
theorem Qi3:Qn Tryz.prog (fun _=>false) Qje 82=some Qco:=by kernel_rfl
theorem Qjr:Qg Tryz.prog 82=true:=by kernel_rfl
def Qjd:Nat→List Nat:=fun i=>[[],[],[2,3,4,5,6,7,8,9,10,11,12,13,14,15],[]].getD i []
theorem Qi2:Qn Tryz.prog (fun _=>false) Qjd 83=some Qcn:=by kernel_rfl
theorem Qjq:Qg Tryz.prog 83=true:=by kernel_rfl
def Qjc:Nat→List Nat:=fun i=>[[],[],[2,3,4,5,6,7,8,9,10,11],[]].getD i []
theorem Qi1:Qn Tryz.prog (fun _=>false) Qjc 84=some Qcm:=by kernel_rfl
theorem Qjp:Qg Tryz.prog 84=true:=by kernel_rfl
def Qjb:Nat→List Nat:=fun i=>[[],[],[2,3,4,5,6,7,8,9,10,11,12,13,14,15,16,17,18,19],[]].getD i []
theorem Qi0:Qn Tryz.prog (fun _=>false) Qjb 85=some Qcl:=by kernel_rfl
theorem Qjo:Qg Tryz.prog 85=true:=by kernel_rfl
def Qja:Nat→List Nat:=fun i=>[[],[],[3,4,5,6,7],[]].getD i []
theorem QiZ:Qn Tryz.prog (fun _=>false) Qja 86=some Qck:=by kernel_rfl
theorem Qjn:Qg Tryz.prog 86=true:=by kernel_rfl
def Ye:Nat→List Nat:=fun i=>[[],[],[5,6,7,8],[]].getD i []
theorem Yb:Qn Tryz.prog (fun _=>false) Ye 87=some QL:=by kernel_rfl
theorem Yh:Qg Tryz.prog 87=true:=by kernel_rfl
def Yf:Nat→List Nat:=fun i=>[[],[],[5,6,7,8],[]].getD i []
theorem Yc:Qn Tryz.prog (fun _=>false) Yf 88=some QM:=by kernel_rfl
theorem Yi:Qg Tryz.prog 88=true:=by kernel_rfl
def Qi9:Nat→List Nat:=fun i=>[[],[],[3,4,5],[]].getD i []
theorem QiY:Qn Tryz.prog (fun _=>false) Qi9 89=some Qcj:=by kernel_rfl
theorem Qjm:Qg Tryz.prog 89=true:=by kernel_rfl
def Ql0:Nat→List Nat:=fun i=>[[],[],[7,8,9,10,11,12,13,14,15,16,17,18,19],[],[],[],[21,22,23,24],[],[25,26,27,28,29],[],[31,32,33,34,35,36,37],[],[38,39,40,41,42,43,44],[]].getD i []
theorem QlQ:Qn Tryz.prog (fun _=>false) Ql0 90=some QeN:=by kernel_rfl
theorem Qma:Qg Tryz.prog 90=true:=by kernel_rfl
def Qqd:Nat→List Nat:=fun i=>[[],[],[10],[],[11,12,13],[],[14],[],[16],[],[17,18,19],[],[20,21,22,23,24,25,26],[],[27,28,29,30,31,32,33,34,35,36,37,38,39,40,41,42,43,44],[],[],[],[49,50],[],[51],[],[53,54,55,56,57,58,59,60],[3,0,3,0,0,1,3,3,2],[61],[],[62],[]].getD i []
theorem Qp8:Qn Tryz.prog (fun d=>List.contains [45] d) Qqd 91=some Qev:=by kernel_rfl
theorem Qqo:Qg Tryz.prog 91=true:=by kernel_rfl
def Qk1:Nat→List Nat:=fun i=>[[],[],[4,5,6],[],[7,8,9,10,11,12,13,14,15,16,17,18,19,20,21,22,23,24,25,26,27,28,29,30,31],[],[],[],[33],[]].getD i []
theorem QkR:Qn Tryz.prog (fun _=>false) Qk1 92=some Qdi:=by kernel_rfl
theorem Qlh:Qg Tryz.prog 92=true:=by kernel_rfl
def Qd9:Nat→List Nat:=fun i=>[[],[],[8,9,10,11,12,13,14,15,16,17,18,19,20],[],[],[],[],[],[25,26],[],[27,28,29,30],[],[32,33],[],[34],[],[],[]].getD i []
theorem Qd3:Qn Tryz.prog (fun d=>List.contains [20] d) Qd9 93=some YR:=by kernel_rfl
theorem Qef:Qg Tryz.prog 93=true:=by kernel_rfl
def Qgo:Nat→List Nat:=fun i=>[[],[],[10],[],[11,12],[],[],[],[16],[],[17,18],[],[],[],[23,24],[],[25,26,27,28],[],[29],[],[30],[],[],[],[31],[],[33],[],[35,36,37],[],[38],[],[40,41,42,43],[],[44,45],[],[46],[]].getD i []
theorem Qgj:Qn Tryz.prog (fun _=>false) Qgo 94=some ZV:=by kernel_rfl
theorem Qgu:Qg Tryz.prog 94=true:=by kernel_rfl
def QCI:Nat→List Nat:=fun i=>[[],[],[5],[],[6,7,8,9,10,11],[],[13],[],[14,15,16],[]].getD i []
theorem QCG:Qn Tryz.prog (fun _=>false) QCI 95=some QtV:=by kernel_rfl
theorem QC3:Qg Tryz.prog 95=true:=by kernel_rfl
def QlV:Nat→List Nat:=fun i=>[[],[],[5,6,7,8,9,10,11,12,13],[]].getD i []
theorem QlL:Qn Tryz.prog (fun _=>false) QlV 96=some Qah:=by kernel_rfl
theorem Ql5:Qg Tryz.prog 96=true:=by kernel_rfl
def QlU:Nat→List Nat:=fun i=>[[],[],[7,8,9],[0,2,3,3,3],[10],[],[12,13,14,15,16],[],[17,18,19,20,21,22,23,24,25,26,27,28,29,30,31,32,33],[]].getD i []
theorem QlK:Qn Tryz.prog (fun _=>false) QlU 97=some Qag:=by kernel_rfl
theorem Ql4:Qg Tryz.prog 97=true:=by kernel_rfl
def Qno:Nat→List Nat:=fun i=>[[],[],[],[],[],[],[],[],[10,11],[],[12,13,14],[],[15],[],[16],[]].getD i []
theorem Qnj:Qn Tryz.prog (fun _=>false) Qno 98=some Qbc:=by kernel_rfl
theorem Qnv:Qg Tryz.prog 98=true:=by kernel_rfl
def QaO:Nat→List Nat:=fun i=>[[],[],[],[],[8,9,10,11],[],[12,13],[],[],[],[17,18,19,20,21,22,23,24,25,26,27,28],[0,0,3,0,3,3,3,3,3,0,3,3,2],[29,30,31,32],[],[33],[]].getD i []
theorem QiV:Qn Tryz.prog (fun _=>false) QaO 99=some Qce:=by kernel_rfl
theorem Qjj:Qg Tryz.prog 99=true:=by kernel_rfl
theorem QpX:(rngOf Tryz.prog 99 0).map (fun r=>(Q1 Tryz.prog 34 (fun _=>false) QaO (rngA r),Qqf (rngA r)))=some (some QgT,true):=by kernel_rfl
theorem QpW:(rngOf Tryz.prog 99 0).map (fun r=>(Q1 Tryz.prog 34 (fun _=>false) QaO (rngB r),Qqf (rngB r)))=some (some QgS,true):=by kernel_rfl
def Qqa:Nat→List Nat:=fun i=>[[],[],[3],[],[6],[],[7],[],[8],[],[10],[],[11,12,13],[],[15],[],[16,17,18],[],[19],[],[20],[]].getD i []
theorem Qp5:Qn Tryz.prog (fun _=>false) Qqa 100=some Qeq:=by kernel_rfl
theorem Qql:Qg Tryz.prog 100=true:=by kernel_rfl
def Qgm:Nat→List Nat:=fun i=>[[],[],[5,6,7],[]].getD i []
theorem Qgh:Qn Tryz.prog (fun _=>false) Qgm 101=some ZR:=by kernel_rfl
theorem Qgs:Qg Tryz.prog 101=true:=by kernel_rfl
def QlT:Nat→List Nat:=fun i=>[[],[],[3,4],[]].getD i []
theorem QlJ:Qn Tryz.prog (fun _=>false) QlT 102=some strconv_Itoa:=by kernel_rfl
theorem Ql3:Qg Tryz.prog 102=true:=by kernel_rfl
def Qp9:Nat→List Nat:=fun i=>[[],[],[3,4,5],[]].getD i []
theorem Qp4:Qn Tryz.prog (fun _=>false) Qp9 103=some Qep:=by kernel_rfl
theorem Qqk:Qg Tryz.prog 103=true:=by kernel_rfl
def YI:Nat→List Nat:=fun i=>[[],[],[6],[],[],[],[10],[],[11,12,13,14,15],[],[17],[],[18],[],[],[]].getD i []
theorem YF:Qn Tryz.prog (fun _=>false) YI 109=some QQ:=by kernel_rfl
theorem YL:Qg Tryz.prog 109=true:=by kernel_rfl
def YJ:Nat→List Nat:=fun i=>[[],[],[6],[],[],[],[10],[],[11,12,13,14,15],[],[17],[],[18],[],[],[]].getD i []
theorem YG:Qn Tryz.prog (fun _=>false) YJ 110=some QR:=by kernel_rfl
theorem YM:Qg Tryz.prog 110=true:=by kernel_rfl
def Qsc:Nat→List Nat:=fun i=>[[],[],[10],[],[11,12,13],[],[14,15,16],[],[17,18,19],[],[20,21,22,23],[],[24,25,26,27,28,29],[],[30,31,32],[],[33,34,35,36,37,38],[],[39],[],[40,41,42,43,44,45,46,47,48,49,50,51,52,53,54,55,56,57,58,59,60,61,62,63,64,65,66,67,68,69,70,71,72,73,74,75,76,77,78,79,80,81,82,83,84,85,86,87,88,89,90,91,92,93,94,95,96,97,98,99,100,101,102,103,104,105,106,107,108,109,110,111,112,113,114,115,116,117,118,119,120,121,122,123,124,125,126,127,128,129,130,131,132,133,134,135,136,137,138,139,140,141,142,143,144,145,146,147,148,149,150,151,152,153,154,155,156,157,158,159,160,161,162,163,164,165,166,167,168,169,170],[0,1,0,1,0,1,0,1,0,1,0,1,0,1,0,1,0,1,0,1,0,1,0,1,0,1,0,1,0,1,0,1,0,1,0,1,0,1,0,1,0,1,0,1,0,1,0,1,0,1,0,1,0,1,0,1,0,1,0,1,0,1,0,1,0,1,0,1,0,1,0,1,0,1,0,1,0,1,0,1,0,1,0,1,0,1,0,1,0,1,0,1,0,1,0,1,0,1,0,1,0,1,0,1,0,1,0,1,0,1,0,1,0,1,0,1,0,1,0,1,0,1,0,1,0,1,0,1,0,2,3,2]].getD i []
theorem Qr6:Qn Tryz.prog (fun _=>false) Qsc 111=some QmQ:=by kernel_rfl
theorem Qst:Qg Tryz.prog 111=true:=by kernel_rfl
def ZH:Nat→List Nat:=fun i=>[[],[],[6],[],[],[],[10],[],[11,12,13,14,15],[],[17],[],[18],[],[],[]].getD i []
theorem ZG:Qn Tryz.prog (fun _=>false) ZH 112=some Qy:=by kernel_rfl
theorem ZI:Qg Tryz.prog 112=true:=by kernel_rfl
def QlW:Nat→List Nat:=fun i=>[[],[],[4,5,6,7,8,9,10,11,12,13,14,15,16,17],[]].getD i []
theorem QlM:Qn Tryz.prog (fun _=>false) QlW 113=some Zj:=by kernel_rfl
theorem Ql6:Qg Tryz.prog 113=true:=by kernel_rfl
def Qi7:Nat→List Nat:=fun i=>[[],[],[],[],[8],[],[],[],[13,14],[],[15,16,17,18,19,20,21,22,23],[3,3,0,3,0,3,1,3,3,3],[24],[],[25,26,27,28],[],[29],[],[31,32,33,34,35,36,37,38,39],[3,0,1,3,3,0,2,3,3,3],[40],[]].getD i []
theorem QiW:Qn Tryz.prog (fun _=>false) Qi7 114=some YX:=by kernel_rfl
theorem Qjk:Qg Tryz.prog 114=true:=by kernel_rfl
def QoH:Nat→List Nat:=fun i=>[[],[],[5,6,7,8,9,10,11,12,13],[3,3,0,3,3,0,3,3,3,3]].getD i []
theorem Qox:Qn Tryz.prog (fun _=>false) QoH 115=some QcP:=by kernel_rfl
theorem Qo5:Qg Tryz.prog 115=true:=by kernel_rfl
def Qgn:Nat→List Nat:=fun i=>[[],[],[7,8,9,10,11,12,13,14,15],[],[16],[],[17,18,19,20,21,22,23,24,25,26,27,28,29,30,31],[]].getD i []
theorem Qgi:Qn Tryz.prog (fun _=>false) Qgn 116=some ZU:=by kernel_rfl
theorem Qgt:Qg Tryz.prog 116=true:=by kernel_rfl
def Qd7:Nat→List Nat:=fun i=>[[],[],[8,9,10,11,12,13,14,15],[],[16,17,18,19,20,21,22,23,24,25,26,27,28,29,30,31,32],[],[],[],[35,36,34,37,38],[],[39,40,41,42],[],[],[],[44,45,46],[],[],[],[48],[],[51],[],[],[],[53],[],[54],[],[55,56,57],[],[],[]].getD i []
theorem Qd1:Qn Tryz.prog (fun _=>false) Qd7 117=some YP:=by kernel_rfl
theorem Qed:Qg Tryz.prog 117=true:=by kernel_rfl
def QdA:Nat→List Nat:=fun i=>[[],[],[8,9,10,11,12,13,14,15],[],[17,18],[],[19,20,21,22,23],[],[24,25,26,27,28,29,30,31,32,33,34,35,36,37,38,39,40,41,42,43,44,45,46,47,48,49,50,51,52,53,54,55,56,57,58],[],[60,61,62],[],[63,64,65,66,67,68,69,70,71,72,73],[3,3,3,3,0,3,3,3,3,0,3,1,2],[74,75,76,77,78,79,80,81,82,83,84,85],[],[],[]].getD i []
theorem Qdx:Qn Tryz.prog (fun _=>false) QdA 118=some Yw:=by kernel_rfl
theorem QdD:Qg Tryz.prog 118=true:=by kernel_rfl
def QeZ:Nat→List Nat:=fun i=>[[],[],[5,6,7,8,9,10,11,12,13,14,15,16,17,18,19,20,21,22],[]].getD i []
theorem QeV:Qn Tryz.prog (fun _=>false) QeZ 119=some Y1:=by kernel_rfl
theorem Qe3:Qg Tryz.prog 119=true:=by kernel_rfl
def Qgp:Nat→List Nat:=fun i=>[[],[],[7,8,9,10,11,12,13,14,15,16,17,18,19,20,21,22,23,24],[],[],[],[26,27,28,29,30],[],[],[],[31],[],[33,34,35,36,37,38,39,40],[],[41,42,43,44,45,46],[],[48,49,50,51,52],[],[53,54],[],[55,56,57,58],[]].getD i []
theorem Qgk:Qn Tryz.prog (fun _=>false) Qgp 120=some ZW:=by kernel_rfl
theorem Qgv:Qg Tryz.prog 120=true:=by kernel_rfl
def QeY:Nat→List Nat:=fun i=>[[3,4],[],[5,6,7,8,9,10],[]].getD i []
theorem QeU:Qn Tryz.prog (fun _=>false) QeY 121=some Y0:=by kernel_rfl
theorem Qe2:Qg Tryz.prog 121=true:=by kernel_rfl
def QkX:Nat→List Nat:=fun i=>[[],[],[6,7],[],[8],[],[],[],[13,14],[],[15,16,17,18],[],[19],[],[20],[]].getD i []
theorem QkN:Qn Tryz.prog (fun _=>false) QkX 122=some Zt:=by kernel_rfl
theorem Qld:Qg Tryz.prog 122=true:=by kernel_rfl
def Qsb:Nat→List Nat:=fun i=>[[],[],[11,12,13,14,15,16,17,18,19,20,21,22,23,24],[0,3,3,3,3,0,3,3,3,0,3,1,1,3,2]].getD i []
theorem Qr5:Qn Tryz.prog (fun _=>false) Qsb 127=some QmP:=by kernel_rfl
theorem Qss:Qg Tryz.prog 127=true:=by kernel_rfl
def Qd8:Nat→List Nat:=fun i=>[[],[],[6,7,8,9,10,11,12,13],[]].getD i []
theorem Qd2:Qn Tryz.prog (fun _=>false) Qd8 128=some YQ:=by kernel_rfl
theorem Qee:Qg Tryz.prog 128=true:=by kernel_rfl
def QaN:Nat→List Nat:=fun i=>[[],[],[5,6,7,8],[]].getD i []
theorem QaL:Qn Tryz.prog (fun _=>false) QaN 129=some Xm:=by kernel_rfl
theorem QaR:Qg Tryz.prog 129=true:=by kernel_rfl
def QdB:Nat→List Nat:=fun i=>[[],[],[5,6,7,8,9,10,11,12,13,14,15,16,17,18,19,20,21,22],[]].getD i []
theorem Qdy:Qn Tryz.prog (fun _=>false) QdB 130=some Yx:=by kernel_rfl
theorem QdE:Qg Tryz.prog 130=true:=by kernel_rfl
def Qqb:Nat→List Nat:=fun i=>[[],[],[9,10,8,11,12,4],[],[14,15,16,13,17,18,7],[],[19,20,21,22,23,24,25,26,27,28,29,30],[],[],[],[32,33],[]].getD i []
theorem Qp6:Qn Tryz.prog (fun _=>false) Qqb 131=some Qke:=by kernel_rfl
theorem Qqm:Qg Tryz.prog 131=true:=by kernel_rfl
def Qsd:Nat→List Nat:=fun i=>[[],[],[7,8,6,9,10,3],[],[11],[],[],[],[13,14,15,16,17],[],[18,19],[],[20,21],[],[22,23],[]].getD i []
theorem Qr7:Qn Tryz.prog (fun d=>List.contains [17,19,21,23] d) Qsd 132=some QmR:=by kernel_rfl
theorem Qsu:Qg Tryz.prog 132=true:=by kernel_rfl
def Qk0:Nat→List Nat:=fun i=>[[],[],[3,4,5,6,7,8,9,10,11,12,13,14],[]].getD i []
theorem QkQ:Qn Tryz.prog (fun _=>false) Qk0 133=some Qdh:=by kernel_rfl
theorem Qlg:Qg Tryz.prog 133=true:=by kernel_rfl
def Qe0:Nat→List Nat:=fun i=>[[],[],[5,6,7,8,9,10,11,12,13,14,15,16,17,18,19],[]].getD i []
theorem QeW:Qn Tryz.prog (fun _=>false) Qe0 134=some Y2:=by kernel_rfl
theorem Qe4:Qg Tryz.prog 134=true:=by kernel_rfl
def QbQ:Nat→List Nat:=fun i=>[[],[],[4,5,6,7],[]].getD i []
theorem QbN:Qn Tryz.prog (fun _=>false) QbQ 135=some XJ:=by kernel_rfl
theorem QbT:Qg Tryz.prog 135=true:=by kernel_rfl
def Qgq:Nat→List Nat:=fun i=>[[],[],[8,9,10,11,12,13,14,15,16,17,18,19],[],[20,21,22,23,24,25,26,27],[],[],[],[29],[],[],[],[34,35,36],[],[37,38,39,40,41,42,43,44,45,46],[],[],[],[48],[],[],[]].getD i []
theorem Qgl:Qn Tryz.prog (fun _=>false) Qgq 136=some ZX:=by kernel_rfl
theorem Qgw:Qg Tryz.prog 136=true:=by kernel_rfl
def Qhj:Nat→List Nat:=fun i=>[[],[],[3,4,5,6,7,8,9,10],[]].getD i []
theorem Qhh:Qn Tryz.prog (fun _=>false) Qhj 137=some QaB:=by kernel_rfl
theorem Qhp:Qg Tryz.prog 137=true:=by kernel_rfl
def QbA:Nat→List Nat:=fun i=>[[],[],[8,9,10],[],[11],[],[13],[],[14,15],[],[16,17,18],[],[20,21],[],[22,23,24,25],[],[26,27,28],[],[30,31,32,33],[],[34,35],[],[36,37,38],[],[39,40,41],[]].getD i []
theorem Qby:Qn Tryz.prog (fun _=>false) QbA 138=some Xw:=by kernel_rfl
theorem QbF:Qg Tryz.prog 138=true:=by kernel_rfl
def Qc4:Nat→List Nat:=fun i=>[[],[],[6,7],[],[9],[],[],[],[10,11,12],[],[14,15],[],[16,17,18,19,20,21,22,23,24],[3,3,3,0,3,3,3,3,0,3],[26,27,28],[],[],[],[29,30,31],[],[33,34],[],[35,36,37,38,39,40,41,42,43],[3,3,3,0,3,3,3,3,0,3],[45,46,47,48,49,50,51],[],[52,53],[],[54,55,56],[],[57,58,59],[],[60],[]].getD i []
theorem Qc3:Qn Tryz.prog (fun _=>false) Qc4 139=some X4:=by kernel_rfl
theorem Qc8:Qg Tryz.prog 139=true:=by kernel_rfl
def Qea:Nat→List Nat:=fun i=>[[],[],[4,5,6,7,8,9,10,11,12],[]].getD i []
theorem Qd4:Qn Tryz.prog (fun _=>false) Qea 140=some YS:=by kernel_rfl
theorem Qeg:Qg Tryz.prog 140=true:=by kernel_rfl
def Qbz:Nat→List Nat:=fun i=>[[],[],[],[],[19,20,21],[],[22],[],[24,25,26,27],[],[28],[],[30,31,32,33],[],[34],[],[36,37,38,39],[],[40,41],[],[43,44,45,46,42,47,48],[],[49],[],[51,52,53,54],[],[55,56,57,58,59,60],[],[],[],[61,62,63,64,65,66,67],[],[69,70,71],[],[73,74,75,76,77,78,79,80,81,82,83,84,85,86],[3,3,3,3,3,3,3,0,3,3,3,0,2,3,3],[88,89,90,91,92],[],[93],[],[95,96,97,98,99,94,100,101],[],[102],[],[103,104,105,106,107,108],[],[109,110],[],[111,112],[],[114,115,116],[],[117,118,119,120,121],[],[122,123],[],[124,125,126],[],[127,128,129,130,131,132],[],[133],[]].getD i []
theorem Qbx:Qn Tryz.prog (fun _=>false) Qbz 141=some Xv:=by kernel_rfl
theorem QbE:Qg Tryz.prog 141=true:=by kernel_rfl
def QbO:Nat→List Nat:=fun i=>[[],[],[6],[],[],[],[10],[],[11,12,13,14,15],[],[17],[],[18],[],[],[]].getD i []
theorem QbL:Qn Tryz.prog (fun _=>false) QbO 147=some XH:=by kernel_rfl
theorem QbR:Qg Tryz.prog 147=true:=by kernel_rfl
def Qh6:Nat→List Nat:=fun i=>[[],[],[7,8,9,10,11,12,13,14,15,16,17,18,19,20,21,22,23,24],[3,3,3,3,3,0,3,3,3,3,3,0,3,3,0,0,3,3,3]].getD i []
theorem QhZ:Qn Tryz.prog (fun _=>false) Qh6 148=some Qbf:=by kernel_rfl
theorem Qif:Qg Tryz.prog 148=true:=by kernel_rfl
def Qcr:Nat→List Nat:=fun i=>[[3,4],[],[5,6,7,8,9,10],[]].getD i []
theorem Qcp:Qn Tryz.prog (fun d=>List.contains [10] d) Qcr 149=some XQ:=by kernel_rfl
theorem Qcu:Qg Tryz.prog 149=true:=by kernel_rfl
def Qa1:Nat→List Nat:=fun i=>[[],[],[6,7],[],[9],[],[],[],[10,11,12],[],[14,15],[],[16,17,18,19,20,21,22,23,24],[3,3,3,0,3,3,3,3,0,3],[26,27,28],[],[],[],[29,30,31],[],[33,34],[],[35,36,37,38,39,40,41,42,43],[3,3,3,0,3,3,3,3,0,3],[45,46,47,48,49,50,51],[],[52,53],[],[54,55,56],[],[57,58,59],[],[60],[]].getD i []
theorem QaZ:Qn Tryz.prog (fun _=>false) Qa1 150=some Xn:=by kernel_rfl
theorem Qa3:Qg Tryz.prog 150=true:=by kernel_rfl
def Z7:Nat→List Nat:=fun i=>[[],[],[8,9,10],[],[11],[],[13],[],[14,15],[],[16,17,18],[],[20,21],[],[22,23,24,25],[],[26,27,28],[],[30,31,32,33],[],[34,35],[],[36,37,38],[],[39,40,41],[]].getD i []
theorem Z6:Qn Tryz.prog (fun _=>false) Z7 151=some Xg:=by kernel_rfl
theorem Z8:Qg Tryz.prog 151=true:=by kernel_rfl
def Qnp:Nat→List Nat:=fun i=>[[],[],[3,4],[]].getD i []
theorem Qnk:Qn Tryz.prog (fun _=>false) Qnp 152=some Qf3:=by kernel_rfl
theorem Qnw:Qg Tryz.prog 152=true:=by kernel_rfl
def QbP:Nat→List Nat:=fun i=>[[],[],[6],[],[],[],[10],[],[11,12,13,14,15],[],[17],[],[18],[],[],[]].getD i []
theorem QbM:Qn Tryz.prog (fun _=>false) QbP 153=some XI:=by kernel_rfl
theorem QbS:Qg Tryz.prog 153=true:=by kernel_rfl
def ZC:Nat→List Nat:=fun i=>[[8,9],[],[10,11],[],[13,14],[],[15],[],[16,17,18,19,20,21,22,23,24,25,26,27,28,29],[3,3,3,3,3,3,3,0,3,3,3,3,0,2,3],[31,32],[],[33,34,35,36,37,38,39,40,41,42,43,44,45,46,47,48],[3,3,3,3,3,3,3,3,3,0,3,3,3,0,3,2,3,2]].getD i []
theorem ZA:Qn Tryz.prog (fun _=>false) ZC 154=some Q7:=by kernel_rfl
theorem ZE:Qg Tryz.prog 154=true:=by kernel_rfl
def Ql1:Nat→List Nat:=fun i=>[[],[],[5,6,7,8,9,10,11,12,13,14,15,16],[]].getD i []
theorem QlR:Qn Tryz.prog (fun _=>false) Ql1 160=some cmp_Less_int:=by kernel_rfl
theorem Qmb:Qg Tryz.prog 160=true:=by kernel_rfl
def QaM:Nat→List Nat:=fun i=>[[],[],[],[],[19,20,21],[],[22],[],[24,25,26,27],[],[28],[],[30,31,32,33],[],[34],[],[36,37,38,39],[],[40,41],[],[43,44,45,46,42,47,48],[],[49],[],[51,52,53,54],[],[55,56,57,58,59,60],[],[],[],[61,62,63,64,65,66,67],[],[69,70,71],[],[73,74,75,76,77,78,79,80,81,82,83,84,85,86],[3,3,3,3,3,3,3,0,3,3,3,0,2,3,3],[88,89,90,91,92],[],[93],[],[95,96,97,98,99,94,100,101],[],[102],[],[103,104,105,106,107,108],[],[109,110],[],[111,112],[],[114,115,116],[],[117,118,119,120,121],[],[122,123],[],[124,125,126],[],[127,128,129,130,131,132],[],[133],[]].getD i []
theorem QaK:Qn Tryz.prog (fun d=>List.contains [27] d) QaM 167=some Xl:=by kernel_rfl
theorem QaQ:Qg Tryz.prog 167=true:=by kernel_rfl
def Qar:Nat→List Nat:=fun i=>[[],[],[6],[],[],[],[10],[],[11,12,13,14,15],[],[17],[],[18],[],[],[]].getD i []
theorem Qao:Qn Tryz.prog (fun _=>false) Qar 168=some Xj:=by kernel_rfl
theorem Qau:Qg Tryz.prog 168=true:=by kernel_rfl
def Y6:Nat→List Nat:=fun i=>[[8,9],[],[10,11],[],[13,14],[],[15],[],[16,17,18,19,20,21,22,23,24,25,26,27,28,29],[3,3,3,3,3,3,3,0,3,3,3,3,0,2,3],[31,32],[],[33,34,35,36,37,38,39,40,41,42,43,44,45,46,47,48],[3,3,3,3,3,3,3,3,3,0,3,3,3,0,3,2,3,2]].getD i []
theorem Y5:Qn Tryz.prog (fun _=>false) Y6 174=some QZ:=by kernel_rfl
theorem Y7:Qg Tryz.prog 174=true:=by kernel_rfl
def Qjf:Nat→List Nat:=fun i=>[[],[],[5,6,7,8,9,10,11,12,13,14,15,16],[]].getD i []
theorem Qi4:Qn Tryz.prog (fun _=>false) Qjf 180=some Qct:=by kernel_rfl
theorem Qjs:Qg Tryz.prog 180=true:=by kernel_rfl
theorem QBU:Qw Tryz.prog tab0:=fun f A h=>by
 unfold tab0 at h
 split at h
 ·cases h; exact ⟨Qa4,_,_,Qa0⟩
 ·cases h; exact ⟨Qeh,_,_,Qd5⟩
 ·cases h; exact ⟨Qei,_,_,Qd6⟩
 ·cases h; exact ⟨Qe5,_,_,QeX⟩
 ·cases h; exact ⟨Qlf,_,_,QkP⟩
 ·cases h; exact ⟨Qnx,_,_,Qnl⟩
 ·cases h; exact ⟨Qle,_,_,QkO⟩
 ·cases h; exact ⟨Qcv,_,_,Qcq⟩
 ·cases h; exact ⟨Qsr,_,_,Qr4⟩
 ·cases h; exact ⟨Ql8,_,_,QlO⟩
 ·cases h; exact ⟨Qo9,_,_,QoB⟩
 ·cases h; exact ⟨Qpa,_,_,QoC⟩
 ·cases h; exact ⟨Qsv,_,_,Qr8⟩
 ·cases h; exact ⟨YN,_,_,YH⟩
 ·cases h; exact ⟨Yg,_,_,Ya⟩
 ·cases h; exact ⟨Yp,_,_,Yn⟩
 ·cases h; exact ⟨Qo6,_,_,Qoy⟩
 ·cases h; exact ⟨XU,_,_,XS⟩
 ·cases h; exact ⟨Qjl,_,_,QiX⟩
 ·cases h; exact ⟨XM,_,_,XK⟩
 ·cases h; exact ⟨Qho,_,_,Qhg⟩
 ·cases h; exact ⟨Qo8,_,_,QoA⟩
 ·cases h; exact ⟨Qfy,_,_,Qfw⟩
 ·cases h; exact ⟨Qie,_,_,QhY⟩
 ·cases h; exact ⟨Ql7,_,_,QlN⟩
 ·cases h; exact ⟨Qaw,_,_,Qaq⟩
 ·cases h; exact ⟨Qav,_,_,Qap⟩
 ·cases h; exact ⟨Qid,_,_,QhX⟩
 ·cases h; exact ⟨Qji,_,_,QiU⟩
 ·cases h; exact ⟨Qlj,_,_,QkT⟩
 ·cases h; exact ⟨Qli,_,_,QkS⟩
 ·cases h; exact ⟨X0,_,_,XX⟩
 ·cases h; exact ⟨Qny,_,_,Qnm⟩
 ·cases h; exact ⟨Ql9,_,_,QlP⟩
 ·cases h; exact ⟨Qqn,_,_,Qp7⟩
 ·cases h; exact ⟨Qo7,_,_,Qoz⟩
 ·cases h; exact ⟨Qjh,_,_,QiT⟩
 ·cases h; exact ⟨Qo3,_,_,Qov⟩
 ·cases h; exact ⟨Qo4,_,_,Qow⟩
 ·cases h; exact ⟨Qlc,_,_,QkM⟩
 ·cases h
theorem QBT:Qw Tryz.prog tab1:=fun f A h=>by
 unfold tab1 at h
 split at h
 ·cases h; exact ⟨Qih,_,_,Qh1⟩
 ·cases h; exact ⟨Qig,_,_,Qh0⟩
 ·cases h; exact ⟨Qlk,_,_,QkU⟩
 ·cases h; exact ⟨Qii,_,_,Qh2⟩
 ·cases h; exact ⟨Qjr,_,_,Qi3⟩
 ·cases h; exact ⟨Qjq,_,_,Qi2⟩
 ·cases h; exact ⟨Qjp,_,_,Qi1⟩
 ·cases h; exact ⟨Qjo,_,_,Qi0⟩
 ·cases h; exact ⟨Qjn,_,_,QiZ⟩
 ·cases h; exact ⟨Yh,_,_,Yb⟩
 ·cases h; exact ⟨Yi,_,_,Yc⟩
 ·cases h; exact ⟨Qjm,_,_,QiY⟩
 ·cases h; exact ⟨Qma,_,_,QlQ⟩
 ·cases h; exact ⟨Qqo,_,_,Qp8⟩
 ·cases h; exact ⟨Qlh,_,_,QkR⟩
 ·cases h; exact ⟨Qef,_,_,Qd3⟩
 ·cases h; exact ⟨Qgu,_,_,Qgj⟩
 ·cases h; exact ⟨QC3,_,_,QCG⟩
 ·cases h; exact ⟨Ql5,_,_,QlL⟩
 ·cases h; exact ⟨Ql4,_,_,QlK⟩
 ·cases h; exact ⟨Qnv,_,_,Qnj⟩
 ·cases h; exact ⟨Qjj,_,_,QiV⟩
 ·cases h; exact ⟨Qql,_,_,Qp5⟩
 ·cases h; exact ⟨Qgs,_,_,Qgh⟩
 ·cases h; exact ⟨Ql3,_,_,QlJ⟩
 ·cases h; exact ⟨Qqk,_,_,Qp4⟩
 ·cases h; exact ⟨YL,_,_,YF⟩
 ·cases h; exact ⟨YM,_,_,YG⟩
 ·cases h; exact ⟨Qst,_,_,Qr6⟩
 ·cases h; exact ⟨ZI,_,_,ZG⟩
 ·cases h; exact ⟨Ql6,_,_,QlM⟩
 ·cases h; exact ⟨Qjk,_,_,QiW⟩
 ·cases h; exact ⟨Qo5,_,_,Qox⟩
 ·cases h; exact ⟨Qgt,_,_,Qgi⟩
 ·cases h; exact ⟨Qed,_,_,Qd1⟩
 ·cases h; exact ⟨QdD,_,_,Qdx⟩
 ·cases h; exact ⟨Qe3,_,_,QeV⟩
 ·cases h; exact ⟨Qgv,_,_,Qgk⟩
 ·cases h; exact ⟨Qe2,_,_,QeU⟩
 ·cases h; exact ⟨Qld,_,_,QkN⟩
 ·cases h; exact ⟨Qss,_,_,Qr5⟩
 ·cases h; exact ⟨Qee,_,_,Qd2⟩
 ·cases h; exact ⟨QaR,_,_,QaL⟩
 ·cases h; exact ⟨QdE,_,_,Qdy⟩
 ·cases h; exact ⟨Qqm,_,_,Qp6⟩
 ·cases h; exact ⟨Qsu,_,_,Qr7⟩
 ·cases h; exact ⟨Qlg,_,_,QkQ⟩
 ·cases h; exact ⟨Qe4,_,_,QeW⟩
 ·cases h; exact ⟨QbT,_,_,QbN⟩
 ·cases h; exact ⟨Qgw,_,_,Qgl⟩
 ·cases h; exact ⟨Qhp,_,_,Qhh⟩
 ·cases h; exact ⟨QbF,_,_,Qby⟩
 ·cases h; exact ⟨Qc8,_,_,Qc3⟩
 ·cases h; exact ⟨Qeg,_,_,Qd4⟩
 ·cases h; exact ⟨QbE,_,_,Qbx⟩
 ·cases h
theorem QBS:Qw Tryz.prog tab2:=fun f A h=>by
 unfold tab2 at h
 split at h
 ·cases h; exact ⟨QbR,_,_,QbL⟩
 ·cases h; exact ⟨Qif,_,_,QhZ⟩
 ·cases h; exact ⟨Qcu,_,_,Qcp⟩
 ·cases h; exact ⟨Qa3,_,_,QaZ⟩
 ·cases h; exact ⟨Z8,_,_,Z6⟩
 ·cases h; exact ⟨Qnw,_,_,Qnk⟩
 ·cases h; exact ⟨QbS,_,_,QbM⟩
 ·cases h; exact ⟨ZE,_,_,ZA⟩
 ·cases h; exact ⟨Qmb,_,_,QlR⟩
 ·cases h; exact ⟨QaQ,_,_,QaK⟩
 ·cases h; exact ⟨Qau,_,_,Qao⟩
 ·cases h; exact ⟨Y7,_,_,Y5⟩
 ·cases h; exact ⟨Qjs,_,_,Qi4⟩
 ·cases h
theorem QqD:Qw Tryz.prog tab:=fun f A h=>by
 unfold tab at h
 split at h
 ·exact QBU f A h
 split at h
 ·exact QBT f A h
 exact QBS f A h
end Go.Proofs.YtfgccihafnjalaaGreatDoor

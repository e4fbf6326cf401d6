/- Own texts. -/
import Derived.Test.YtchbppgamelchaaDoorGen4
set_option linter.unusedVariables false
set_option linter.unusedSimpArgs false
set_option linter.unnecessarySimpa false
set_option maxRecDepth 10000
set_option maxHeartbeats 4000000
namespace Go.Proofs.YtchbppgamelchaaDoor
open Go.SX
theorem JM (a0:Int) (a1:Int) (a2:List D) (a3:Int) (t1:Bool) (t3:List D) (t6:List D) (t7:List D) (t10:List D×List D×Int) (t18:Int×Int×List D×List D×List D) (t19:List D) (t22:List D×Int) (t23:List D×Int) (t26:Int×Int×List D×Int) (t27:Int×Int) (t28:Int×Int) (t29:Int×Int) (t36:Bool) (t39:Bool) (t43:Bool):Vx true 100 cx 3 [.agg [I a0,I a1,.lst false 1 a2],.v (.int .u16 a3)] [.ret (B t1),.br false,.br true,.lp [3,1] [1,3,4] [0,8,12] (.exit 0) [(3,.own 12 0)] [(0,.box (.d (.agg [I a0,I a1,.lst false 1 a2]))),(12,.row 0 1 t3)] 42,.lp [] [1,2,5,6] [0,12] (.exit 0) [(1,.d (.v (.int .u16 a3))),(2,.ptr 0 0 0 0 0),(5,.own 12 0),(6,.d (I (Int.tdiv (((t3).length:Int)+2) 3)))] [(0,.box (.d (.agg [I a0,I a1,.lst false 1 a2]))),(12,.row 0 1 t6)] 69,.lp [7,1] [1,2,5,6,7,59,60] [0,12,72] (.exit 2) [(1,.d (.v (.int .u16 a3))),(2,.ptr 0 0 0 0 0),(5,.own 12 0),(6,.d (I (Int.tdiv (((t3).length:Int)+2) 3))),(7,.own 72 0)] [(0,.box (.d (.agg [I a0,I a1,.lst false 1 a2]))),(12,.row 0 1 t6),(72,.row 0 1 t7)] 148,.br true,.br true,.ret (.tup [.lst false 6 t10.1,.lst false 2 t10.2.1,I t10.2.2]),.br false,.br false,.br false,.br true,.br true,.br true,.ix (-8),.br true,.lp [] [1,2,5,6,14,17,18,19,20,21,147,148,149] [0,12,174,183,185,189,196] (.exit 4) [(1,.d (.v (.int .u16 a3))),(2,.ptr 0 0 0 0 0),(6,.d (I (Int.tdiv (((t3).length:Int)+2) 3))),(14,.d (.lst false 6 t10.1)),(17,.own 174 0),(18,.ptr 185 0 0 0 0),(19,.ptr 189 0 0 0 0),(20,.d (I t18.1)),(21,.d (I t18.2.1))] [(0,.box (.d (.agg [I a0,I a1,.lst false 1 a2]))),(174,.row 0 1 t18.2.2.1),(183,.row 0 1 t18.2.2.2.1),(185,.box (.agg [.d (I a0),.d (I a1),.own 183 0])),(189,.box (.agg [.d (I a0),.d (I a1),.own 196 0])),(196,.row 0 1 t18.2.2.2.2)] 387,.lp [27,1] [1,2,14,17,18,19,20,21,27,247,248] [0,174,183,185,189,196,390] (.exit 8) [(2,.ptr 0 0 0 0 0),(14,.d (.lst false 6 t10.1)),(18,.ptr 185 0 0 0 0),(19,.ptr 189 0 0 0 0),(27,.own 390 0)] [(0,.box (.d (.agg [I a0,I a1,.lst false 1 a2]))),(183,.row 0 1 t18.2.2.2.1),(185,.box (.agg [.d (I a0),.d (I a1),.own 183 0])),(189,.box (.agg [.d (I a0),.d (I a1),.own 196 0])),(196,.row 0 1 t18.2.2.2.2),(390,.row 0 1 t19)] 437,.br true,.br true,.ret (.tup [.lst false 1 t22.1,I t22.2]),.br true,.br true,.ret (.tup [.lst false 1 t23.1,I t23.2]),.no,.br true,.ix (-10),.br true,.no,.br true,.ix (-10),.br true,.ret (.tup [.agg [I t26.1,I t26.2.1,.lst false 1 t26.2.2.1],I t26.2.2.2]),.br true,.br true,.ix (-10),.br true,.ret (.tup [I t27.1,I t27.2]),.br true,.br true,.ix (-10),.br true,.ret (.tup [I t28.1,I t28.2]),.br true,.br true,.ix (-8),.br true,.ret (.tup [I t29.1,I t29.2]),.br true,.ret (B t36),.br true,.br true,.ret (B t39),.br true,.br true,.ret (B t43)]=some (B t43,[Computes cx 5 [] (B t43),((t27.1+t28.1) == t29.1)=true,Qa (t27.1+t28.1),t39=true,Computes cx 16 [.agg [I t26.1,I t26.2.1,.lst false 1 t26.2.2.1],.agg [I a0,I a1,.lst false 1 a2]] (B t39),(((t23.1).length:Int) == 0)=true,t36=true,Computes cx 15 [.lst false 1 t22.1,.lst false 1 t19] (B t36),((((((t22.2+t23.2)+t26.2.2.2)+t27.2)+t28.2)+t29.2) == 0)=true,Qa (((((t22.2+t23.2)+t26.2.2.2)+t27.2)+t28.2)+t29.2),Qa ((((t22.2+t23.2)+t26.2.2.2)+t27.2)+t28.2),Qa (((t22.2+t23.2)+t26.2.2.2)+t27.2),Qa ((t22.2+t23.2)+t26.2.2.2),Qa (t22.2+t23.2),Computes cx 14 [.agg [I a0,I a1,.lst false 1 a2]] (.tup [I t29.1,I t29.2]),room cx 27 (0+(a2).length),Computes cx 14 [.agg [I a0,I a1,.lst false 1 t18.2.2.2.2]] (.tup [I t28.1,I t28.2]),room cx 27 (0+(t18.2.2.2.2).length),Computes cx 14 [.agg [I a0,I a1,.lst false 1 t18.2.2.2.1]] (.tup [I t27.1,I t27.2]),room cx 27 (0+(t18.2.2.2.1).length),Computes cx 12 [.agg [I a0,I a1,.lst false 1 t18.2.2.2.1],.agg [I a0,I a1,.lst false 1 t18.2.2.2.2]] (.tup [.agg [I t26.1,I t26.2.1,.lst false 1 t26.2.2.1],I t26.2.2.2]),room cx 27 (0+(t18.2.2.2.2).length),room cx 27 (0+(t18.2.2.2.1).length),Computes cx 11 [.lst true 6 [],I 8] (.tup [.lst false 1 t23.1,I t23.2]),QU t10.1=true,room cx 35 (0+(t10.1).length),Computes cx 11 [.lst true 6 [],I 7] (.tup [.lst false 1 t22.1,I t22.2]),QU t10.1=true,room cx 35 (0+(t10.1).length),QI cx (Qp cx.P 3 4) 358 0 false [(1,.d (.v (.int .u16 a3))),(2,.ptr 0 0 0 0 0),(14,.d (.lst false 6 t10.1)),(17,.own 174 0),(18,.ptr 185 0 0 0 0),(19,.ptr 189 0 0 0 0),(20,.d (I t18.1)),(21,.d (I t18.2.1)),(27,.own 390 0),(247,.d (I (Int.tdiv (((t3).length:Int)+2) 3))),(248,.d (I 0))] [(0,.box (.d (.agg [I a0,I a1,.lst false 1 a2]))),(174,.row 0 1 t18.2.2.1),(183,.row 0 1 t18.2.2.2.1),(185,.box (.agg [.d (I a0),.d (I a1),.own 183 0])),(189,.box (.agg [.d (I a0),.d (I a1),.own 196 0])),(196,.row 0 1 t18.2.2.2.2),(390,.row 0 1 [])] (.exit 8) [(2,.ptr 0 0 0 0 0),(14,.d (.lst false 6 t10.1)),(18,.ptr 185 0 0 0 0),(19,.ptr 189 0 0 0 0),(27,.own 390 0)] [(0,.box (.d (.agg [I a0,I a1,.lst false 1 a2]))),(183,.row 0 1 t18.2.2.2.1),(185,.box (.agg [.d (I a0),.d (I a1),.own 183 0])),(189,.box (.agg [.d (I a0),.d (I a1),.own 196 0])),(196,.row 0 1 t18.2.2.2.2),(390,.row 0 1 t19)],QI cx (Qp cx.P 3 2) 358 0 false [(1,.d (.v (.int .u16 a3))),(2,.ptr 0 0 0 0 0),(5,.own 12 0),(6,.d (I (Int.tdiv (((t3).length:Int)+2) 3))),(14,.d (.lst false 6 t10.1)),(17,.own 174 0),(18,.ptr 185 0 0 0 0),(19,.ptr 189 0 0 0 0),(20,.d (I (-1))),(21,.d (I (-1))),(147,.d (.lst false 6 t10.1)),(148,.d (I ((t10.1).length:Int))),(149,.d (I 0))] [(0,.box (.d (.agg [I a0,I a1,.lst false 1 a2]))),(12,.row 0 1 t6),(174,.row 0 1 (List.replicate (Int.toNat (Int.tdiv (((t3).length:Int)+2) 3)) (B false:D))),(183,.row 0 1 (List.replicate (Int.toNat ((a2).length:Int)) (.v (.float .f32 0):D))),(185,.box (.agg [.d (I a0),.d (I a1),.own 183 0])),(189,.box (.agg [.d (I a0),.d (I a1),.own 196 0])),(196,.row 0 1 a2)] (.exit 4) [(1,.d (.v (.int .u16 a3))),(2,.ptr 0 0 0 0 0),(6,.d (I (Int.tdiv (((t3).length:Int)+2) 3))),(14,.d (.lst false 6 t10.1)),(17,.own 174 0),(18,.ptr 185 0 0 0 0),(19,.ptr 189 0 0 0 0),(20,.d (I t18.1)),(21,.d (I t18.2.1))] [(0,.box (.d (.agg [I a0,I a1,.lst false 1 a2]))),(174,.row 0 1 t18.2.2.1),(183,.row 0 1 t18.2.2.2.1),(185,.box (.agg [.d (I a0),.d (I a1),.own 183 0])),(189,.box (.agg [.d (I a0),.d (I a1),.own 196 0])),(196,.row 0 1 t18.2.2.2.2)],room cx 27 (0+(a2).length),0≤((a2).length:Int)∧((a2).length:Int)≤((a2).length:Int)∧4 * ((a2).length:Int)≤281474976710656∧((a2).length:Int)≤9223372036854775807,0≤(Int.tdiv (((t3).length:Int)+2) 3)∧(Int.tdiv (((t3).length:Int)+2) 3)≤(Int.tdiv (((t3).length:Int)+2) 3)∧1 * (Int.tdiv (((t3).length:Int)+2) 3)≤281474976710656∧(Int.tdiv (((t3).length:Int)+2) 3)≤9223372036854775807,(decide (((t10.1).length:Int) > (2 * (Int.tdiv (((t3).length:Int)+2) 3))))=false,Qa (2 * (Int.tdiv (((t3).length:Int)+2) 3)),(decide (((t10.2.1).length:Int) > 0))=false,(t10.2.2 != 0)=false,Computes cx 8 [.lst true 1 []] (.tup [.lst false 6 t10.1,.lst false 2 t10.2.1,I t10.2.2]),QU t7=true,room cx 5 (0+(t7).length),QI cx (Qp cx.P 3 1) 358 0 false [(1,.d (.v (.int .u16 a3))),(2,.ptr 0 0 0 0 0),(5,.own 12 0),(6,.d (I (Int.tdiv (((t3).length:Int)+2) 3))),(7,.own 72 0),(59,.d (I (Int.tdiv (((t3).length:Int)+2) 3))),(60,.d (I 0))] [(0,.box (.d (.agg [I a0,I a1,.lst false 1 a2]))),(12,.row 0 1 t6),(72,.row 0 1 [])] (.exit 2) [(1,.d (.v (.int .u16 a3))),(2,.ptr 0 0 0 0 0),(5,.own 12 0),(6,.d (I (Int.tdiv (((t3).length:Int)+2) 3))),(7,.own 72 0)] [(0,.box (.d (.agg [I a0,I a1,.lst false 1 a2]))),(12,.row 0 1 t6),(72,.row 0 1 t7)],QI cx (Qp cx.P 3 0) 358 0 false [(1,.d (.v (.int .u16 a3))),(2,.ptr 0 0 0 0 0),(5,.own 12 0),(6,.d (I (Int.tdiv (((t3).length:Int)+2) 3)))] [(0,.box (.d (.agg [I a0,I a1,.lst false 1 a2]))),(12,.row 0 1 t3)] (.exit 0) [(1,.d (.v (.int .u16 a3))),(2,.ptr 0 0 0 0 0),(5,.own 12 0),(6,.d (I (Int.tdiv (((t3).length:Int)+2) 3)))] [(0,.box (.d (.agg [I a0,I a1,.lst false 1 a2]))),(12,.row 0 1 t6)],(3:Int)≠0,Qa (Int.tdiv (((t3).length:Int)+2) 3),Qa (((t3).length:Int)+2),QI cx (Qp cx.P 6 0) 22 8 false [(1,.ptr 8 0 0 0 0),(3,.own 12 0),(4,.d (I 0))] [(0,.box (.d (.agg [I a0,I a1,.lst false 1 a2]))),(8,.box (.d (.agg [I a0,I a1,.lst false 1 a2]))),(12,.row 0 1 [])] (.exit 0) [(3,.own 12 0)] [(0,.box (.d (.agg [I a0,I a1,.lst false 1 a2]))),(12,.row 0 1 t3)],(!t1)=false,Computes cx 4 [.agg [I a0,I a1,.lst false 1 a2],I 36,.v (.float .f32 1149239296)] (B t1)]):=by kernel_rfl
theorem JL (a0:Int) (a1:Int) (a2:List D) (a3:Int) (t1:Bool) (t3:List D) (t6:List D) (t7:List D) (t10:List D×List D×Int) (t18:Int×Int×List D×List D×List D) (t19:List D) (t22:List D×Int) (t23:List D×Int) (t26:Int×Int×List D×Int) (t27:Int×Int) (t28:Int×Int) (t29:Int×Int) (t36:Bool) (t39:Bool) (t43:Bool):Vx true 100 cx 3 [.agg [I a0,I a1,.lst false 1 a2],.v (.int .u16 a3)] [.ret (B t1),.br false,.br true,.lp [3,1] [1,3,4] [0,8,12] (.exit 0) [(3,.own 12 0)] [(0,.box (.d (.agg [I a0,I a1,.lst false 1 a2]))),(12,.row 0 1 t3)] 42,.lp [] [1,2,5,6] [0,12] (.exit 0) [(1,.d (.v (.int .u16 a3))),(2,.ptr 0 0 0 0 0),(5,.own 12 0),(6,.d (I (Int.tdiv (((t3).length:Int)+2) 3)))] [(0,.box (.d (.agg [I a0,I a1,.lst false 1 a2]))),(12,.row 0 1 t6)] 69,.lp [7,1] [1,2,5,6,7,59,60] [0,12,72] (.exit 2) [(1,.d (.v (.int .u16 a3))),(2,.ptr 0 0 0 0 0),(5,.own 12 0),(6,.d (I (Int.tdiv (((t3).length:Int)+2) 3))),(7,.own 72 0)] [(0,.box (.d (.agg [I a0,I a1,.lst false 1 a2]))),(12,.row 0 1 t6),(72,.row 0 1 t7)] 148,.br true,.br true,.ret (.tup [.lst false 6 t10.1,.lst false 2 t10.2.1,I t10.2.2]),.br false,.br false,.br false,.br true,.br true,.br true,.ix (-8),.br true,.lp [] [1,2,5,6,14,17,18,19,20,21,147,148,149] [0,12,174,183,185,189,196] (.exit 4) [(1,.d (.v (.int .u16 a3))),(2,.ptr 0 0 0 0 0),(6,.d (I (Int.tdiv (((t3).length:Int)+2) 3))),(14,.d (.lst false 6 t10.1)),(17,.own 174 0),(18,.ptr 185 0 0 0 0),(19,.ptr 189 0 0 0 0),(20,.d (I t18.1)),(21,.d (I t18.2.1))] [(0,.box (.d (.agg [I a0,I a1,.lst false 1 a2]))),(174,.row 0 1 t18.2.2.1),(183,.row 0 1 t18.2.2.2.1),(185,.box (.agg [.d (I a0),.d (I a1),.own 183 0])),(189,.box (.agg [.d (I a0),.d (I a1),.own 196 0])),(196,.row 0 1 t18.2.2.2.2)] 387,.lp [27,1] [1,2,14,17,18,19,20,21,27,247,248] [0,174,183,185,189,196,390] (.exit 8) [(2,.ptr 0 0 0 0 0),(14,.d (.lst false 6 t10.1)),(18,.ptr 185 0 0 0 0),(19,.ptr 189 0 0 0 0),(27,.own 390 0)] [(0,.box (.d (.agg [I a0,I a1,.lst false 1 a2]))),(183,.row 0 1 t18.2.2.2.1),(185,.box (.agg [.d (I a0),.d (I a1),.own 183 0])),(189,.box (.agg [.d (I a0),.d (I a1),.own 196 0])),(196,.row 0 1 t18.2.2.2.2),(390,.row 0 1 t19)] 437,.br true,.br false,.ret (.tup [.lst false 1 t22.1,I t22.2]),.br true,.br false,.ret (.tup [.lst false 1 t23.1,I t23.2]),.no,.br true,.ix (-10),.br true,.no,.br true,.ix (-10),.br true,.ret (.tup [.agg [I t26.1,I t26.2.1,.lst false 1 t26.2.2.1],I t26.2.2.2]),.br true,.br true,.ix (-10),.br true,.ret (.tup [I t27.1,I t27.2]),.br true,.br true,.ix (-10),.br true,.ret (.tup [I t28.1,I t28.2]),.br true,.br true,.ix (-8),.br true,.ret (.tup [I t29.1,I t29.2]),.br true,.ret (B t36),.br true,.br true,.ret (B t39),.br true,.br true,.ret (B t43)]=some (B t43,[Computes cx 5 [] (B t43),((t27.1+t28.1) == t29.1)=true,Qa (t27.1+t28.1),t39=true,Computes cx 16 [.agg [I t26.1,I t26.2.1,.lst false 1 t26.2.2.1],.agg [I a0,I a1,.lst false 1 a2]] (B t39),(((t23.1).length:Int) == 0)=true,t36=true,Computes cx 15 [.lst false 1 t22.1,.lst false 1 t19] (B t36),((((((t22.2+t23.2)+t26.2.2.2)+t27.2)+t28.2)+t29.2) == 0)=true,Qa (((((t22.2+t23.2)+t26.2.2.2)+t27.2)+t28.2)+t29.2),Qa ((((t22.2+t23.2)+t26.2.2.2)+t27.2)+t28.2),Qa (((t22.2+t23.2)+t26.2.2.2)+t27.2),Qa ((t22.2+t23.2)+t26.2.2.2),Qa (t22.2+t23.2),Computes cx 14 [.agg [I a0,I a1,.lst false 1 a2]] (.tup [I t29.1,I t29.2]),room cx 27 (0+(a2).length),Computes cx 14 [.agg [I a0,I a1,.lst false 1 t18.2.2.2.2]] (.tup [I t28.1,I t28.2]),room cx 27 (0+(t18.2.2.2.2).length),Computes cx 14 [.agg [I a0,I a1,.lst false 1 t18.2.2.2.1]] (.tup [I t27.1,I t27.2]),room cx 27 (0+(t18.2.2.2.1).length),Computes cx 12 [.agg [I a0,I a1,.lst false 1 t18.2.2.2.1],.agg [I a0,I a1,.lst false 1 t18.2.2.2.2]] (.tup [.agg [I t26.1,I t26.2.1,.lst false 1 t26.2.2.1],I t26.2.2.2]),room cx 27 (0+(t18.2.2.2.2).length),room cx 27 (0+(t18.2.2.2.1).length),Computes cx 11 [.lst false 6 t10.1,I 8] (.tup [.lst false 1 t23.1,I t23.2]),QU t10.1=false,room cx 35 (0+(t10.1).length),Computes cx 11 [.lst false 6 t10.1,I 7] (.tup [.lst false 1 t22.1,I t22.2]),QU t10.1=false,room cx 35 (0+(t10.1).length),QI cx (Qp cx.P 3 4) 358 0 false [(1,.d (.v (.int .u16 a3))),(2,.ptr 0 0 0 0 0),(14,.d (.lst false 6 t10.1)),(17,.own 174 0),(18,.ptr 185 0 0 0 0),(19,.ptr 189 0 0 0 0),(20,.d (I t18.1)),(21,.d (I t18.2.1)),(27,.own 390 0),(247,.d (I (Int.tdiv (((t3).length:Int)+2) 3))),(248,.d (I 0))] [(0,.box (.d (.agg [I a0,I a1,.lst false 1 a2]))),(174,.row 0 1 t18.2.2.1),(183,.row 0 1 t18.2.2.2.1),(185,.box (.agg [.d (I a0),.d (I a1),.own 183 0])),(189,.box (.agg [.d (I a0),.d (I a1),.own 196 0])),(196,.row 0 1 t18.2.2.2.2),(390,.row 0 1 [])] (.exit 8) [(2,.ptr 0 0 0 0 0),(14,.d (.lst false 6 t10.1)),(18,.ptr 185 0 0 0 0),(19,.ptr 189 0 0 0 0),(27,.own 390 0)] [(0,.box (.d (.agg [I a0,I a1,.lst false 1 a2]))),(183,.row 0 1 t18.2.2.2.1),(185,.box (.agg [.d (I a0),.d (I a1),.own 183 0])),(189,.box (.agg [.d (I a0),.d (I a1),.own 196 0])),(196,.row 0 1 t18.2.2.2.2),(390,.row 0 1 t19)],QI cx (Qp cx.P 3 2) 358 0 false [(1,.d (.v (.int .u16 a3))),(2,.ptr 0 0 0 0 0),(5,.own 12 0),(6,.d (I (Int.tdiv (((t3).length:Int)+2) 3))),(14,.d (.lst false 6 t10.1)),(17,.own 174 0),(18,.ptr 185 0 0 0 0),(19,.ptr 189 0 0 0 0),(20,.d (I (-1))),(21,.d (I (-1))),(147,.d (.lst false 6 t10.1)),(148,.d (I ((t10.1).length:Int))),(149,.d (I 0))] [(0,.box (.d (.agg [I a0,I a1,.lst false 1 a2]))),(12,.row 0 1 t6),(174,.row 0 1 (List.replicate (Int.toNat (Int.tdiv (((t3).length:Int)+2) 3)) (B false:D))),(183,.row 0 1 (List.replicate (Int.toNat ((a2).length:Int)) (.v (.float .f32 0):D))),(185,.box (.agg [.d (I a0),.d (I a1),.own 183 0])),(189,.box (.agg [.d (I a0),.d (I a1),.own 196 0])),(196,.row 0 1 a2)] (.exit 4) [(1,.d (.v (.int .u16 a3))),(2,.ptr 0 0 0 0 0),(6,.d (I (Int.tdiv (((t3).length:Int)+2) 3))),(14,.d (.lst false 6 t10.1)),(17,.own 174 0),(18,.ptr 185 0 0 0 0),(19,.ptr 189 0 0 0 0),(20,.d (I t18.1)),(21,.d (I t18.2.1))] [(0,.box (.d (.agg [I a0,I a1,.lst false 1 a2]))),(174,.row 0 1 t18.2.2.1),(183,.row 0 1 t18.2.2.2.1),(185,.box (.agg [.d (I a0),.d (I a1),.own 183 0])),(189,.box (.agg [.d (I a0),.d (I a1),.own 196 0])),(196,.row 0 1 t18.2.2.2.2)],room cx 27 (0+(a2).length),0≤((a2).length:Int)∧((a2).length:Int)≤((a2).length:Int)∧4 * ((a2).length:Int)≤281474976710656∧((a2).length:Int)≤9223372036854775807,0≤(Int.tdiv (((t3).length:Int)+2) 3)∧(Int.tdiv (((t3).length:Int)+2) 3)≤(Int.tdiv (((t3).length:Int)+2) 3)∧1 * (Int.tdiv (((t3).length:Int)+2) 3)≤281474976710656∧(Int.tdiv (((t3).length:Int)+2) 3)≤9223372036854775807,(decide (((t10.1).length:Int) > (2 * (Int.tdiv (((t3).length:Int)+2) 3))))=false,Qa (2 * (Int.tdiv (((t3).length:Int)+2) 3)),(decide (((t10.2.1).length:Int) > 0))=false,(t10.2.2 != 0)=false,Computes cx 8 [.lst true 1 []] (.tup [.lst false 6 t10.1,.lst false 2 t10.2.1,I t10.2.2]),QU t7=true,room cx 5 (0+(t7).length),QI cx (Qp cx.P 3 1) 358 0 false [(1,.d (.v (.int .u16 a3))),(2,.ptr 0 0 0 0 0),(5,.own 12 0),(6,.d (I (Int.tdiv (((t3).length:Int)+2) 3))),(7,.own 72 0),(59,.d (I (Int.tdiv (((t3).length:Int)+2) 3))),(60,.d (I 0))] [(0,.box (.d (.agg [I a0,I a1,.lst false 1 a2]))),(12,.row 0 1 t6),(72,.row 0 1 [])] (.exit 2) [(1,.d (.v (.int .u16 a3))),(2,.ptr 0 0 0 0 0),(5,.own 12 0),(6,.d (I (Int.tdiv (((t3).length:Int)+2) 3))),(7,.own 72 0)] [(0,.box (.d (.agg [I a0,I a1,.lst false 1 a2]))),(12,.row 0 1 t6),(72,.row 0 1 t7)],QI cx (Qp cx.P 3 0) 358 0 false [(1,.d (.v (.int .u16 a3))),(2,.ptr 0 0 0 0 0),(5,.own 12 0),(6,.d (I (Int.tdiv (((t3).length:Int)+2) 3)))] [(0,.box (.d (.agg [I a0,I a1,.lst false 1 a2]))),(12,.row 0 1 t3)] (.exit 0) [(1,.d (.v (.int .u16 a3))),(2,.ptr 0 0 0 0 0),(5,.own 12 0),(6,.d (I (Int.tdiv (((t3).length:Int)+2) 3)))] [(0,.box (.d (.agg [I a0,I a1,.lst false 1 a2]))),(12,.row 0 1 t6)],(3:Int)≠0,Qa (Int.tdiv (((t3).length:Int)+2) 3),Qa (((t3).length:Int)+2),QI cx (Qp cx.P 6 0) 22 8 false [(1,.ptr 8 0 0 0 0),(3,.own 12 0),(4,.d (I 0))] [(0,.box (.d (.agg [I a0,I a1,.lst false 1 a2]))),(8,.box (.d (.agg [I a0,I a1,.lst false 1 a2]))),(12,.row 0 1 [])] (.exit 0) [(3,.own 12 0)] [(0,.box (.d (.agg [I a0,I a1,.lst false 1 a2]))),(12,.row 0 1 t3)],(!t1)=false,Computes cx 4 [.agg [I a0,I a1,.lst false 1 a2],I 36,.v (.float .f32 1149239296)] (B t1)]):=by kernel_rfl
theorem KQ (a0:Int) (a1:Int) (a2:List D) (a3:Int) (t1:Bool) (t3:List D) (t6:List D) (t7:List D) (t10:List D×List D×Int) (t18:Int×Int×List D×List D×List D) (t19:List D) (t22:List D×Int) (t23:List D×Int) (t26:Int×Int×List D×Int) (t27:Int×Int) (t28:Int×Int) (t29:Int×Int) (t36:Bool) (t39:Bool) (t43:Bool):Vx true 100 cx 3 [.agg [I a0,I a1,.lst false 1 a2],.v (.int .u16 a3)] [.ret (B t1),.br false,.br true,.lp [3,1] [1,3,4] [0,8,12] (.exit 0) [(3,.own 12 0)] [(0,.box (.d (.agg [I a0,I a1,.lst false 1 a2]))),(12,.row 0 1 t3)] 42,.lp [] [1,2,5,6] [0,12] (.exit 0) [(1,.d (.v (.int .u16 a3))),(2,.ptr 0 0 0 0 0),(5,.own 12 0),(6,.d (I (Int.tdiv (((t3).length:Int)+2) 3)))] [(0,.box (.d (.agg [I a0,I a1,.lst false 1 a2]))),(12,.row 0 1 t6)] 69,.lp [7,1] [1,2,5,6,7,59,60] [0,12,72] (.exit 2) [(1,.d (.v (.int .u16 a3))),(2,.ptr 0 0 0 0 0),(5,.own 12 0),(6,.d (I (Int.tdiv (((t3).length:Int)+2) 3))),(7,.own 72 0)] [(0,.box (.d (.agg [I a0,I a1,.lst false 1 a2]))),(12,.row 0 1 t6),(72,.row 0 1 t7)] 148,.br true,.br false,.ret (.tup [.lst false 6 t10.1,.lst false 2 t10.2.1,I t10.2.2]),.br false,.br false,.br false,.br true,.br true,.br true,.ix (-8),.br true,.lp [] [1,2,5,6,14,17,18,19,20,21,147,148,149] [0,12,174,183,185,189,196] (.exit 4) [(1,.d (.v (.int .u16 a3))),(2,.ptr 0 0 0 0 0),(6,.d (I (Int.tdiv (((t3).length:Int)+2) 3))),(14,.d (.lst false 6 t10.1)),(17,.own 174 0),(18,.ptr 185 0 0 0 0),(19,.ptr 189 0 0 0 0),(20,.d (I t18.1)),(21,.d (I t18.2.1))] [(0,.box (.d (.agg [I a0,I a1,.lst false 1 a2]))),(174,.row 0 1 t18.2.2.1),(183,.row 0 1 t18.2.2.2.1),(185,.box (.agg [.d (I a0),.d (I a1),.own 183 0])),(189,.box (.agg [.d (I a0),.d (I a1),.own 196 0])),(196,.row 0 1 t18.2.2.2.2)] 387,.lp [27,1] [1,2,14,17,18,19,20,21,27,247,248] [0,174,183,185,189,196,390] (.exit 8) [(2,.ptr 0 0 0 0 0),(14,.d (.lst false 6 t10.1)),(18,.ptr 185 0 0 0 0),(19,.ptr 189 0 0 0 0),(27,.own 390 0)] [(0,.box (.d (.agg [I a0,I a1,.lst false 1 a2]))),(183,.row 0 1 t18.2.2.2.1),(185,.box (.agg [.d (I a0),.d (I a1),.own 183 0])),(189,.box (.agg [.d (I a0),.d (I a1),.own 196 0])),(196,.row 0 1 t18.2.2.2.2),(390,.row 0 1 t19)] 437,.br true,.br true,.ret (.tup [.lst false 1 t22.1,I t22.2]),.br true,.br true,.ret (.tup [.lst false 1 t23.1,I t23.2]),.no,.br true,.ix (-10),.br true,.no,.br true,.ix (-10),.br true,.ret (.tup [.agg [I t26.1,I t26.2.1,.lst false 1 t26.2.2.1],I t26.2.2.2]),.br true,.br true,.ix (-10),.br true,.ret (.tup [I t27.1,I t27.2]),.br true,.br true,.ix (-10),.br true,.ret (.tup [I t28.1,I t28.2]),.br true,.br true,.ix (-8),.br true,.ret (.tup [I t29.1,I t29.2]),.br true,.ret (B t36),.br true,.br true,.ret (B t39),.br true,.br true,.ret (B t43)]=some (B t43,[Computes cx 5 [] (B t43),((t27.1+t28.1) == t29.1)=true,Qa (t27.1+t28.1),t39=true,Computes cx 16 [.agg [I t26.1,I t26.2.1,.lst false 1 t26.2.2.1],.agg [I a0,I a1,.lst false 1 a2]] (B t39),(((t23.1).length:Int) == 0)=true,t36=true,Computes cx 15 [.lst false 1 t22.1,.lst false 1 t19] (B t36),((((((t22.2+t23.2)+t26.2.2.2)+t27.2)+t28.2)+t29.2) == 0)=true,Qa (((((t22.2+t23.2)+t26.2.2.2)+t27.2)+t28.2)+t29.2),Qa ((((t22.2+t23.2)+t26.2.2.2)+t27.2)+t28.2),Qa (((t22.2+t23.2)+t26.2.2.2)+t27.2),Qa ((t22.2+t23.2)+t26.2.2.2),Qa (t22.2+t23.2),Computes cx 14 [.agg [I a0,I a1,.lst false 1 a2]] (.tup [I t29.1,I t29.2]),room cx 27 (0+(a2).length),Computes cx 14 [.agg [I a0,I a1,.lst false 1 t18.2.2.2.2]] (.tup [I t28.1,I t28.2]),room cx 27 (0+(t18.2.2.2.2).length),Computes cx 14 [.agg [I a0,I a1,.lst false 1 t18.2.2.2.1]] (.tup [I t27.1,I t27.2]),room cx 27 (0+(t18.2.2.2.1).length),Computes cx 12 [.agg [I a0,I a1,.lst false 1 t18.2.2.2.1],.agg [I a0,I a1,.lst false 1 t18.2.2.2.2]] (.tup [.agg [I t26.1,I t26.2.1,.lst false 1 t26.2.2.1],I t26.2.2.2]),room cx 27 (0+(t18.2.2.2.2).length),room cx 27 (0+(t18.2.2.2.1).length),Computes cx 11 [.lst true 6 [],I 8] (.tup [.lst false 1 t23.1,I t23.2]),QU t10.1=true,room cx 35 (0+(t10.1).length),Computes cx 11 [.lst true 6 [],I 7] (.tup [.lst false 1 t22.1,I t22.2]),QU t10.1=true,room cx 35 (0+(t10.1).length),QI cx (Qp cx.P 3 4) 358 0 false [(1,.d (.v (.int .u16 a3))),(2,.ptr 0 0 0 0 0),(14,.d (.lst false 6 t10.1)),(17,.own 174 0),(18,.ptr 185 0 0 0 0),(19,.ptr 189 0 0 0 0),(20,.d (I t18.1)),(21,.d (I t18.2.1)),(27,.own 390 0),(247,.d (I (Int.tdiv (((t3).length:Int)+2) 3))),(248,.d (I 0))] [(0,.box (.d (.agg [I a0,I a1,.lst false 1 a2]))),(174,.row 0 1 t18.2.2.1),(183,.row 0 1 t18.2.2.2.1),(185,.box (.agg [.d (I a0),.d (I a1),.own 183 0])),(189,.box (.agg [.d (I a0),.d (I a1),.own 196 0])),(196,.row 0 1 t18.2.2.2.2),(390,.row 0 1 [])] (.exit 8) [(2,.ptr 0 0 0 0 0),(14,.d (.lst false 6 t10.1)),(18,.ptr 185 0 0 0 0),(19,.ptr 189 0 0 0 0),(27,.own 390 0)] [(0,.box (.d (.agg [I a0,I a1,.lst false 1 a2]))),(183,.row 0 1 t18.2.2.2.1),(185,.box (.agg [.d (I a0),.d (I a1),.own 183 0])),(189,.box (.agg [.d (I a0),.d (I a1),.own 196 0])),(196,.row 0 1 t18.2.2.2.2),(390,.row 0 1 t19)],QI cx (Qp cx.P 3 2) 358 0 false [(1,.d (.v (.int .u16 a3))),(2,.ptr 0 0 0 0 0),(5,.own 12 0),(6,.d (I (Int.tdiv (((t3).length:Int)+2) 3))),(14,.d (.lst false 6 t10.1)),(17,.own 174 0),(18,.ptr 185 0 0 0 0),(19,.ptr 189 0 0 0 0),(20,.d (I (-1))),(21,.d (I (-1))),(147,.d (.lst false 6 t10.1)),(148,.d (I ((t10.1).length:Int))),(149,.d (I 0))] [(0,.box (.d (.agg [I a0,I a1,.lst false 1 a2]))),(12,.row 0 1 t6),(174,.row 0 1 (List.replicate (Int.toNat (Int.tdiv (((t3).length:Int)+2) 3)) (B false:D))),(183,.row 0 1 (List.replicate (Int.toNat ((a2).length:Int)) (.v (.float .f32 0):D))),(185,.box (.agg [.d (I a0),.d (I a1),.own 183 0])),(189,.box (.agg [.d (I a0),.d (I a1),.own 196 0])),(196,.row 0 1 a2)] (.exit 4) [(1,.d (.v (.int .u16 a3))),(2,.ptr 0 0 0 0 0),(6,.d (I (Int.tdiv (((t3).length:Int)+2) 3))),(14,.d (.lst false 6 t10.1)),(17,.own 174 0),(18,.ptr 185 0 0 0 0),(19,.ptr 189 0 0 0 0),(20,.d (I t18.1)),(21,.d (I t18.2.1))] [(0,.box (.d (.agg [I a0,I a1,.lst false 1 a2]))),(174,.row 0 1 t18.2.2.1),(183,.row 0 1 t18.2.2.2.1),(185,.box (.agg [.d (I a0),.d (I a1),.own 183 0])),(189,.box (.agg [.d (I a0),.d (I a1),.own 196 0])),(196,.row 0 1 t18.2.2.2.2)],room cx 27 (0+(a2).length),0≤((a2).length:Int)∧((a2).length:Int)≤((a2).length:Int)∧4 * ((a2).length:Int)≤281474976710656∧((a2).length:Int)≤9223372036854775807,0≤(Int.tdiv (((t3).length:Int)+2) 3)∧(Int.tdiv (((t3).length:Int)+2) 3)≤(Int.tdiv (((t3).length:Int)+2) 3)∧1 * (Int.tdiv (((t3).length:Int)+2) 3)≤281474976710656∧(Int.tdiv (((t3).length:Int)+2) 3)≤9223372036854775807,(decide (((t10.1).length:Int) > (2 * (Int.tdiv (((t3).length:Int)+2) 3))))=false,Qa (2 * (Int.tdiv (((t3).length:Int)+2) 3)),(decide (((t10.2.1).length:Int) > 0))=false,(t10.2.2 != 0)=false,Computes cx 8 [.lst false 1 t7] (.tup [.lst false 6 t10.1,.lst false 2 t10.2.1,I t10.2.2]),QU t7=false,room cx 5 (0+(t7).length),QI cx (Qp cx.P 3 1) 358 0 false [(1,.d (.v (.int .u16 a3))),(2,.ptr 0 0 0 0 0),(5,.own 12 0),(6,.d (I (Int.tdiv (((t3).length:Int)+2) 3))),(7,.own 72 0),(59,.d (I (Int.tdiv (((t3).length:Int)+2) 3))),(60,.d (I 0))] [(0,.box (.d (.agg [I a0,I a1,.lst false 1 a2]))),(12,.row 0 1 t6),(72,.row 0 1 [])] (.exit 2) [(1,.d (.v (.int .u16 a3))),(2,.ptr 0 0 0 0 0),(5,.own 12 0),(6,.d (I (Int.tdiv (((t3).length:Int)+2) 3))),(7,.own 72 0)] [(0,.box (.d (.agg [I a0,I a1,.lst false 1 a2]))),(12,.row 0 1 t6),(72,.row 0 1 t7)],QI cx (Qp cx.P 3 0) 358 0 false [(1,.d (.v (.int .u16 a3))),(2,.ptr 0 0 0 0 0),(5,.own 12 0),(6,.d (I (Int.tdiv (((t3).length:Int)+2) 3)))] [(0,.box (.d (.agg [I a0,I a1,.lst false 1 a2]))),(12,.row 0 1 t3)] (.exit 0) [(1,.d (.v (.int .u16 a3))),(2,.ptr 0 0 0 0 0),(5,.own 12 0),(6,.d (I (Int.tdiv (((t3).length:Int)+2) 3)))] [(0,.box (.d (.agg [I a0,I a1,.lst false 1 a2]))),(12,.row 0 1 t6)],(3:Int)≠0,Qa (Int.tdiv (((t3).length:Int)+2) 3),Qa (((t3).length:Int)+2),QI cx (Qp cx.P 6 0) 22 8 false [(1,.ptr 8 0 0 0 0),(3,.own 12 0),(4,.d (I 0))] [(0,.box (.d (.agg [I a0,I a1,.lst false 1 a2]))),(8,.box (.d (.agg [I a0,I a1,.lst false 1 a2]))),(12,.row 0 1 [])] (.exit 0) [(3,.own 12 0)] [(0,.box (.d (.agg [I a0,I a1,.lst false 1 a2]))),(12,.row 0 1 t3)],(!t1)=false,Computes cx 4 [.agg [I a0,I a1,.lst false 1 a2],I 36,.v (.float .f32 1149239296)] (B t1)]):=by kernel_rfl
theorem KP (a0:Int) (a1:Int) (a2:List D) (a3:Int) (t1:Bool) (t3:List D) (t6:List D) (t7:List D) (t10:List D×List D×Int) (t18:Int×Int×List D×List D×List D) (t19:List D) (t22:List D×Int) (t23:List D×Int) (t26:Int×Int×List D×Int) (t27:Int×Int) (t28:Int×Int) (t29:Int×Int) (t36:Bool) (t39:Bool) (t43:Bool):Vx true 100 cx 3 [.agg [I a0,I a1,.lst false 1 a2],.v (.int .u16 a3)] [.ret (B t1),.br false,.br true,.lp [3,1] [1,3,4] [0,8,12] (.exit 0) [(3,.own 12 0)] [(0,.box (.d (.agg [I a0,I a1,.lst false 1 a2]))),(12,.row 0 1 t3)] 42,.lp [] [1,2,5,6] [0,12] (.exit 0) [(1,.d (.v (.int .u16 a3))),(2,.ptr 0 0 0 0 0),(5,.own 12 0),(6,.d (I (Int.tdiv (((t3).length:Int)+2) 3)))] [(0,.box (.d (.agg [I a0,I a1,.lst false 1 a2]))),(12,.row 0 1 t6)] 69,.lp [7,1] [1,2,5,6,7,59,60] [0,12,72] (.exit 2) [(1,.d (.v (.int .u16 a3))),(2,.ptr 0 0 0 0 0),(5,.own 12 0),(6,.d (I (Int.tdiv (((t3).length:Int)+2) 3))),(7,.own 72 0)] [(0,.box (.d (.agg [I a0,I a1,.lst false 1 a2]))),(12,.row 0 1 t6),(72,.row 0 1 t7)] 148,.br true,.br false,.ret (.tup [.lst false 6 t10.1,.lst false 2 t10.2.1,I t10.2.2]),.br false,.br false,.br false,.br true,.br true,.br true,.ix (-8),.br true,.lp [] [1,2,5,6,14,17,18,19,20,21,147,148,149] [0,12,174,183,185,189,196] (.exit 4) [(1,.d (.v (.int .u16 a3))),(2,.ptr 0 0 0 0 0),(6,.d (I (Int.tdiv (((t3).length:Int)+2) 3))),(14,.d (.lst false 6 t10.1)),(17,.own 174 0),(18,.ptr 185 0 0 0 0),(19,.ptr 189 0 0 0 0),(20,.d (I t18.1)),(21,.d (I t18.2.1))] [(0,.box (.d (.agg [I a0,I a1,.lst false 1 a2]))),(174,.row 0 1 t18.2.2.1),(183,.row 0 1 t18.2.2.2.1),(185,.box (.agg [.d (I a0),.d (I a1),.own 183 0])),(189,.box (.agg [.d (I a0),.d (I a1),.own 196 0])),(196,.row 0 1 t18.2.2.2.2)] 387,.lp [27,1] [1,2,14,17,18,19,20,21,27,247,248] [0,174,183,185,189,196,390] (.exit 8) [(2,.ptr 0 0 0 0 0),(14,.d (.lst false 6 t10.1)),(18,.ptr 185 0 0 0 0),(19,.ptr 189 0 0 0 0),(27,.own 390 0)] [(0,.box (.d (.agg [I a0,I a1,.lst false 1 a2]))),(183,.row 0 1 t18.2.2.2.1),(185,.box (.agg [.d (I a0),.d (I a1),.own 183 0])),(189,.box (.agg [.d (I a0),.d (I a1),.own 196 0])),(196,.row 0 1 t18.2.2.2.2),(390,.row 0 1 t19)] 437,.br true,.br false,.ret (.tup [.lst false 1 t22.1,I t22.2]),.br true,.br false,.ret (.tup [.lst false 1 t23.1,I t23.2]),.no,.br true,.ix (-10),.br true,.no,.br true,.ix (-10),.br true,.ret (.tup [.agg [I t26.1,I t26.2.1,.lst false 1 t26.2.2.1],I t26.2.2.2]),.br true,.br true,.ix (-10),.br true,.ret (.tup [I t27.1,I t27.2]),.br true,.br true,.ix (-10),.br true,.ret (.tup [I t28.1,I t28.2]),.br true,.br true,.ix (-8),.br true,.ret (.tup [I t29.1,I t29.2]),.br true,.ret (B t36),.br true,.br true,.ret (B t39),.br true,.br true,.ret (B t43)]=some (B t43,[Computes cx 5 [] (B t43),((t27.1+t28.1) == t29.1)=true,Qa (t27.1+t28.1),t39=true,Computes cx 16 [.agg [I t26.1,I t26.2.1,.lst false 1 t26.2.2.1],.agg [I a0,I a1,.lst false 1 a2]] (B t39),(((t23.1).length:Int) == 0)=true,t36=true,Computes cx 15 [.lst false 1 t22.1,.lst false 1 t19] (B t36),((((((t22.2+t23.2)+t26.2.2.2)+t27.2)+t28.2)+t29.2) == 0)=true,Qa (((((t22.2+t23.2)+t26.2.2.2)+t27.2)+t28.2)+t29.2),Qa ((((t22.2+t23.2)+t26.2.2.2)+t27.2)+t28.2),Qa (((t22.2+t23.2)+t26.2.2.2)+t27.2),Qa ((t22.2+t23.2)+t26.2.2.2),Qa (t22.2+t23.2),Computes cx 14 [.agg [I a0,I a1,.lst false 1 a2]] (.tup [I t29.1,I t29.2]),room cx 27 (0+(a2).length),Computes cx 14 [.agg [I a0,I a1,.lst false 1 t18.2.2.2.2]] (.tup [I t28.1,I t28.2]),room cx 27 (0+(t18.2.2.2.2).length),Computes cx 14 [.agg [I a0,I a1,.lst false 1 t18.2.2.2.1]] (.tup [I t27.1,I t27.2]),room cx 27 (0+(t18.2.2.2.1).length),Computes cx 12 [.agg [I a0,I a1,.lst false 1 t18.2.2.2.1],.agg [I a0,I a1,.lst false 1 t18.2.2.2.2]] (.tup [.agg [I t26.1,I t26.2.1,.lst false 1 t26.2.2.1],I t26.2.2.2]),room cx 27 (0+(t18.2.2.2.2).length),room cx 27 (0+(t18.2.2.2.1).length),Computes cx 11 [.lst false 6 t10.1,I 8] (.tup [.lst false 1 t23.1,I t23.2]),QU t10.1=false,room cx 35 (0+(t10.1).length),Computes cx 11 [.lst false 6 t10.1,I 7] (.tup [.lst false 1 t22.1,I t22.2]),QU t10.1=false,room cx 35 (0+(t10.1).length),QI cx (Qp cx.P 3 4) 358 0 false [(1,.d (.v (.int .u16 a3))),(2,.ptr 0 0 0 0 0),(14,.d (.lst false 6 t10.1)),(17,.own 174 0),(18,.ptr 185 0 0 0 0),(19,.ptr 189 0 0 0 0),(20,.d (I t18.1)),(21,.d (I t18.2.1)),(27,.own 390 0),(247,.d (I (Int.tdiv (((t3).length:Int)+2) 3))),(248,.d (I 0))] [(0,.box (.d (.agg [I a0,I a1,.lst false 1 a2]))),(174,.row 0 1 t18.2.2.1),(183,.row 0 1 t18.2.2.2.1),(185,.box (.agg [.d (I a0),.d (I a1),.own 183 0])),(189,.box (.agg [.d (I a0),.d (I a1),.own 196 0])),(196,.row 0 1 t18.2.2.2.2),(390,.row 0 1 [])] (.exit 8) [(2,.ptr 0 0 0 0 0),(14,.d (.lst false 6 t10.1)),(18,.ptr 185 0 0 0 0),(19,.ptr 189 0 0 0 0),(27,.own 390 0)] [(0,.box (.d (.agg [I a0,I a1,.lst false 1 a2]))),(183,.row 0 1 t18.2.2.2.1),(185,.box (.agg [.d (I a0),.d (I a1),.own 183 0])),(189,.box (.agg [.d (I a0),.d (I a1),.own 196 0])),(196,.row 0 1 t18.2.2.2.2),(390,.row 0 1 t19)],QI cx (Qp cx.P 3 2) 358 0 false [(1,.d (.v (.int .u16 a3))),(2,.ptr 0 0 0 0 0),(5,.own 12 0),(6,.d (I (Int.tdiv (((t3).length:Int)+2) 3))),(14,.d (.lst false 6 t10.1)),(17,.own 174 0),(18,.ptr 185 0 0 0 0),(19,.ptr 189 0 0 0 0),(20,.d (I (-1))),(21,.d (I (-1))),(147,.d (.lst false 6 t10.1)),(148,.d (I ((t10.1).length:Int))),(149,.d (I 0))] [(0,.box (.d (.agg [I a0,I a1,.lst false 1 a2]))),(12,.row 0 1 t6),(174,.row 0 1 (List.replicate (Int.toNat (Int.tdiv (((t3).length:Int)+2) 3)) (B false:D))),(183,.row 0 1 (List.replicate (Int.toNat ((a2).length:Int)) (.v (.float .f32 0):D))),(185,.box (.agg [.d (I a0),.d (I a1),.own 183 0])),(189,.box (.agg [.d (I a0),.d (I a1),.own 196 0])),(196,.row 0 1 a2)] (.exit 4) [(1,.d (.v (.int .u16 a3))),(2,.ptr 0 0 0 0 0),(6,.d (I (Int.tdiv (((t3).length:Int)+2) 3))),(14,.d (.lst false 6 t10.1)),(17,.own 174 0),(18,.ptr 185 0 0 0 0),(19,.ptr 189 0 0 0 0),(20,.d (I t18.1)),(21,.d (I t18.2.1))] [(0,.box (.d (.agg [I a0,I a1,.lst false 1 a2]))),(174,.row 0 1 t18.2.2.1),(183,.row 0 1 t18.2.2.2.1),(185,.box (.agg [.d (I a0),.d (I a1),.own 183 0])),(189,.box (.agg [.d (I a0),.d (I a1),.own 196 0])),(196,.row 0 1 t18.2.2.2.2)],room cx 27 (0+(a2).length),0≤((a2).length:Int)∧((a2).length:Int)≤((a2).length:Int)∧4 * ((a2).length:Int)≤281474976710656∧((a2).length:Int)≤9223372036854775807,0≤(Int.tdiv (((t3).length:Int)+2) 3)∧(Int.tdiv (((t3).length:Int)+2) 3)≤(Int.tdiv (((t3).length:Int)+2) 3)∧1 * (Int.tdiv (((t3).length:Int)+2) 3)≤281474976710656∧(Int.tdiv (((t3).length:Int)+2) 3)≤9223372036854775807,(decide (((t10.1).length:Int) > (2 * (Int.tdiv (((t3).length:Int)+2) 3))))=false,Qa (2 * (Int.tdiv (((t3).length:Int)+2) 3)),(decide (((t10.2.1).length:Int) > 0))=false,(t10.2.2 != 0)=false,Computes cx 8 [.lst false 1 t7] (.tup [.lst false 6 t10.1,.lst false 2 t10.2.1,I t10.2.2]),QU t7=false,room cx 5 (0+(t7).length),QI cx (Qp cx.P 3 1) 358 0 false [(1,.d (.v (.int .u16 a3))),(2,.ptr 0 0 0 0 0),(5,.own 12 0),(6,.d (I (Int.tdiv (((t3).length:Int)+2) 3))),(7,.own 72 0),(59,.d (I (Int.tdiv (((t3).length:Int)+2) 3))),(60,.d (I 0))] [(0,.box (.d (.agg [I a0,I a1,.lst false 1 a2]))),(12,.row 0 1 t6),(72,.row 0 1 [])] (.exit 2) [(1,.d (.v (.int .u16 a3))),(2,.ptr 0 0 0 0 0),(5,.own 12 0),(6,.d (I (Int.tdiv (((t3).length:Int)+2) 3))),(7,.own 72 0)] [(0,.box (.d (.agg [I a0,I a1,.lst false 1 a2]))),(12,.row 0 1 t6),(72,.row 0 1 t7)],QI cx (Qp cx.P 3 0) 358 0 false [(1,.d (.v (.int .u16 a3))),(2,.ptr 0 0 0 0 0),(5,.own 12 0),(6,.d (I (Int.tdiv (((t3).length:Int)+2) 3)))] [(0,.box (.d (.agg [I a0,I a1,.lst false 1 a2]))),(12,.row 0 1 t3)] (.exit 0) [(1,.d (.v (.int .u16 a3))),(2,.ptr 0 0 0 0 0),(5,.own 12 0),(6,.d (I (Int.tdiv (((t3).length:Int)+2) 3)))] [(0,.box (.d (.agg [I a0,I a1,.lst false 1 a2]))),(12,.row 0 1 t6)],(3:Int)≠0,Qa (Int.tdiv (((t3).length:Int)+2) 3),Qa (((t3).length:Int)+2),QI cx (Qp cx.P 6 0) 22 8 false [(1,.ptr 8 0 0 0 0),(3,.own 12 0),(4,.d (I 0))] [(0,.box (.d (.agg [I a0,I a1,.lst false 1 a2]))),(8,.box (.d (.agg [I a0,I a1,.lst false 1 a2]))),(12,.row 0 1 [])] (.exit 0) [(3,.own 12 0)] [(0,.box (.d (.agg [I a0,I a1,.lst false 1 a2]))),(12,.row 0 1 t3)],(!t1)=false,Computes cx 4 [.agg [I a0,I a1,.lst false 1 a2],I 36,.v (.float .f32 1149239296)] (B t1)]):=by kernel_rfl
theorem KO (a0:Int) (a1:Int) (a2:List D) (a3:Int) (t1:Bool) (t3:Bool):Vx true 100 cx 3 [.agg [I a0,I a1,.lst false 1 a2],.v (.int .u16 a3)] [.ret (B t1),.br true,.ret (B t3)]=some (B t3,[Computes cx 5 [] (B t3),(!t1)=true,Computes cx 4 [.agg [I a0,I a1,.lst false 1 a2],I 36,.v (.float .f32 1149239296)] (B t1)]):=by kernel_rfl
def Wc (n:Nat) (a0 a1:Int) (a2:List D) (a3:Int):Option (Bool) :=
 (Wx n a0 a1 a2 36 1149239296).bind fun t1 =>
 if t1=true then
  (QS (Q8 n a0 a1 a2) n (0,[])).bind fun t3 =>
  if Qa (((t3).length:Int)+2) then
  if Qa (Int.tdiv (((t3).length:Int)+2) 3) then
  (QS (Zp n a0 a1 a2 a3 t3) n t3).bind fun t6 =>
  (QS (QW n a0 a1 a2 a3 t3 t6) n (0,[])).bind fun t7 =>
  if Q5 1 (0+(t7).length) then
  if QU t7=true then
   (V4 n).bind fun t10 =>
   if t10.2.2=0 then
    if ((t10.2.1).length:Int) > 0 then
     none
    else
    if Qa (2 * (Int.tdiv (((t3).length:Int)+2) 3)) then
    if ((t10.1).length:Int) > (2 * (Int.tdiv (((t3).length:Int)+2) 3)) then
     none
    else
    if 0≤(Int.tdiv (((t3).length:Int)+2) 3)∧(Int.tdiv (((t3).length:Int)+2) 3)≤(Int.tdiv (((t3).length:Int)+2) 3)∧1 * (Int.tdiv (((t3).length:Int)+2) 3)≤281474976710656∧(Int.tdiv (((t3).length:Int)+2) 3)≤9223372036854775807 then
    if 0≤((a2).length:Int)∧((a2).length:Int)≤((a2).length:Int)∧4 * ((a2).length:Int)≤281474976710656∧((a2).length:Int)≤9223372036854775807 then
    if Q5 4 (0+(a2).length) then
    (QS (Qs n a0 a1 a2 a3 t3 t6 t10) n ((-1),(-1),0,(List.replicate (Int.toNat (Int.tdiv (((t3).length:Int)+2) 3)) (B false:D)),(List.replicate (Int.toNat ((a2).length:Int)) (.v (.float .f32 0):D)),a2)).bind fun t18 =>
    (QS (QR n a0 a1 a2 a3 t3 t10 t18) n (0,[])).bind fun t19 =>
    if Q5 48 (0+(t10.1).length) then
    if QU t10.1=true then
     (Q1 n ([]) 7).bind fun t22 =>
     (Q1 n ([]) 8).bind fun t23 =>
     if Q5 4 (0+(t18.2.2.2.1).length) then
     if Q5 4 (0+(t18.2.2.2.2).length) then
     (Z8 n a0 a1 t18.2.2.2.1 a0 a1 t18.2.2.2.2).bind fun t26 =>
     (QT n a0 a1 t18.2.2.2.1).bind fun t27 =>
     (QT n a0 a1 t18.2.2.2.2).bind fun t28 =>
     (QT n a0 a1 a2).bind fun t29 =>
     if Qa (t22.2+t23.2) then
     if Qa ((t22.2+t23.2)+t26.2.2.2) then
     if Qa (((t22.2+t23.2)+t26.2.2.2)+t27.2) then
     if Qa ((((t22.2+t23.2)+t26.2.2.2)+t27.2)+t28.2) then
     if Qa (((((t22.2+t23.2)+t26.2.2.2)+t27.2)+t28.2)+t29.2) then
     if (((((t22.2+t23.2)+t26.2.2.2)+t27.2)+t28.2)+t29.2)=0 then
      (Zh n t22.1 t19).bind fun t36 =>
      if t36=true then
       if ((t23.1).length:Int)=0 then
        (Zw n t26.1 t26.2.1 t26.2.2.1 a0 a1 a2).bind fun t39 =>
        if t39=true then
         if Qa (t27.1+t28.1) then
         if (t27.1+t28.1)=t29.1 then
          (W4 n).bind fun t43 =>
          some t43
         else
         none
         else none
        else
        none
       else
       none
      else
      none
     else
     none
     else none
     else none
     else none
     else none
     else none
     else none
     else none
    else
    (Q1 n t10.1 7).bind fun t22 =>
    (Q1 n t10.1 8).bind fun t23 =>
    if Q5 4 (0+(t18.2.2.2.1).length) then
    if Q5 4 (0+(t18.2.2.2.2).length) then
    (Z8 n a0 a1 t18.2.2.2.1 a0 a1 t18.2.2.2.2).bind fun t26 =>
    (QT n a0 a1 t18.2.2.2.1).bind fun t27 =>
    (QT n a0 a1 t18.2.2.2.2).bind fun t28 =>
    (QT n a0 a1 a2).bind fun t29 =>
    if Qa (t22.2+t23.2) then
    if Qa ((t22.2+t23.2)+t26.2.2.2) then
    if Qa (((t22.2+t23.2)+t26.2.2.2)+t27.2) then
    if Qa ((((t22.2+t23.2)+t26.2.2.2)+t27.2)+t28.2) then
    if Qa (((((t22.2+t23.2)+t26.2.2.2)+t27.2)+t28.2)+t29.2) then
    if (((((t22.2+t23.2)+t26.2.2.2)+t27.2)+t28.2)+t29.2)=0 then
     (Zh n t22.1 t19).bind fun t36 =>
     if t36=true then
      if ((t23.1).length:Int)=0 then
       (Zw n t26.1 t26.2.1 t26.2.2.1 a0 a1 a2).bind fun t39 =>
       if t39=true then
        if Qa (t27.1+t28.1) then
        if (t27.1+t28.1)=t29.1 then
         (W4 n).bind fun t43 =>
         some t43
        else
        none
        else none
       else
       none
      else
      none
     else
     none
    else
    none
    else none
    else none
    else none
    else none
    else none
    else none
    else none
    else none
    else none
    else none
    else none
    else none
   else
   none
  else
  (Wh n t7).bind fun t10 =>
  if t10.2.2=0 then
   if ((t10.2.1).length:Int) > 0 then
    none
   else
   if Qa (2 * (Int.tdiv (((t3).length:Int)+2) 3)) then
   if ((t10.1).length:Int) > (2 * (Int.tdiv (((t3).length:Int)+2) 3)) then
    none
   else
   if 0≤(Int.tdiv (((t3).length:Int)+2) 3)∧(Int.tdiv (((t3).length:Int)+2) 3)≤(Int.tdiv (((t3).length:Int)+2) 3)∧1 * (Int.tdiv (((t3).length:Int)+2) 3)≤281474976710656∧(Int.tdiv (((t3).length:Int)+2) 3)≤9223372036854775807 then
   if 0≤((a2).length:Int)∧((a2).length:Int)≤((a2).length:Int)∧4 * ((a2).length:Int)≤281474976710656∧((a2).length:Int)≤9223372036854775807 then
   if Q5 4 (0+(a2).length) then
   (QS (Qs n a0 a1 a2 a3 t3 t6 t10) n ((-1),(-1),0,(List.replicate (Int.toNat (Int.tdiv (((t3).length:Int)+2) 3)) (B false:D)),(List.replicate (Int.toNat ((a2).length:Int)) (.v (.float .f32 0):D)),a2)).bind fun t18 =>
   (QS (QR n a0 a1 a2 a3 t3 t10 t18) n (0,[])).bind fun t19 =>
   if Q5 48 (0+(t10.1).length) then
   if QU t10.1=true then
    (Q1 n ([]) 7).bind fun t22 =>
    (Q1 n ([]) 8).bind fun t23 =>
    if Q5 4 (0+(t18.2.2.2.1).length) then
    if Q5 4 (0+(t18.2.2.2.2).length) then
    (Z8 n a0 a1 t18.2.2.2.1 a0 a1 t18.2.2.2.2).bind fun t26 =>
    (QT n a0 a1 t18.2.2.2.1).bind fun t27 =>
    (QT n a0 a1 t18.2.2.2.2).bind fun t28 =>
    (QT n a0 a1 a2).bind fun t29 =>
    if Qa (t22.2+t23.2) then
    if Qa ((t22.2+t23.2)+t26.2.2.2) then
    if Qa (((t22.2+t23.2)+t26.2.2.2)+t27.2) then
    if Qa ((((t22.2+t23.2)+t26.2.2.2)+t27.2)+t28.2) then
    if Qa (((((t22.2+t23.2)+t26.2.2.2)+t27.2)+t28.2)+t29.2) then
    if (((((t22.2+t23.2)+t26.2.2.2)+t27.2)+t28.2)+t29.2)=0 then
     (Zh n t22.1 t19).bind fun t36 =>
     if t36=true then
      if ((t23.1).length:Int)=0 then
       (Zw n t26.1 t26.2.1 t26.2.2.1 a0 a1 a2).bind fun t39 =>
       if t39=true then
        if Qa (t27.1+t28.1) then
        if (t27.1+t28.1)=t29.1 then
         (W4 n).bind fun t43 =>
         some t43
        else
        none
        else none
       else
       none
      else
      none
     else
     none
    else
    none
    else none
    else none
    else none
    else none
    else none
    else none
    else none
   else
   (Q1 n t10.1 7).bind fun t22 =>
   (Q1 n t10.1 8).bind fun t23 =>
   if Q5 4 (0+(t18.2.2.2.1).length) then
   if Q5 4 (0+(t18.2.2.2.2).length) then
   (Z8 n a0 a1 t18.2.2.2.1 a0 a1 t18.2.2.2.2).bind fun t26 =>
   (QT n a0 a1 t18.2.2.2.1).bind fun t27 =>
   (QT n a0 a1 t18.2.2.2.2).bind fun t28 =>
   (QT n a0 a1 a2).bind fun t29 =>
   if Qa (t22.2+t23.2) then
   if Qa ((t22.2+t23.2)+t26.2.2.2) then
   if Qa (((t22.2+t23.2)+t26.2.2.2)+t27.2) then
   if Qa ((((t22.2+t23.2)+t26.2.2.2)+t27.2)+t28.2) then
   if Qa (((((t22.2+t23.2)+t26.2.2.2)+t27.2)+t28.2)+t29.2) then
   if (((((t22.2+t23.2)+t26.2.2.2)+t27.2)+t28.2)+t29.2)=0 then
    (Zh n t22.1 t19).bind fun t36 =>
    if t36=true then
     if ((t23.1).length:Int)=0 then
      (Zw n t26.1 t26.2.1 t26.2.2.1 a0 a1 a2).bind fun t39 =>
      if t39=true then
       if Qa (t27.1+t28.1) then
       if (t27.1+t28.1)=t29.1 then
        (W4 n).bind fun t43 =>
        some t43
       else
       none
       else none
      else
      none
     else
     none
    else
    none
   else
   none
   else none
   else none
   else none
   else none
   else none
   else none
   else none
   else none
   else none
   else none
   else none
   else none
  else
  none
  else none
  else none
  else none
 else
 (W4 n).bind fun t3 =>
 some t3
theorem GV {n:Nat} {a0 a1:Int} {a2:List D} {a3:Int} {r:Bool} (h:Wc n a0 a1 a2 a3=some r):Computes cx 3 [.agg [I a0,I a1,.lst false 1 a2],.v (.int .u16 a3)] (B r):=by
 unfold Wc at h
 obtain ⟨t1,h1,h⟩:=Qe h
 by_cases h2:t1=true
 ·replace h:=Qk h h2
  obtain ⟨t3,h3,h⟩:=Qe h
  obtain ⟨h4,h⟩:=Qf h
  obtain ⟨h5,h⟩:=Qf h
  obtain ⟨t6,h6,h⟩:=Qe h
  obtain ⟨t7,h7,h⟩:=Qe h
  obtain ⟨h8,h⟩:=Qf h
  by_cases h9:QU t7=true
  ·replace h:=Qk h h9
   obtain ⟨t10,h10,h⟩:=Qe h
   by_cases h11:t10.2.2=0
   ·replace h:=Qk h h11
    by_cases h12:((t10.2.1).length:Int) > 0
    ·replace h:=Qk h h12
     cases h
    ·replace h:=Ql h h12
     obtain ⟨h13,h⟩:=Qf h
     by_cases h14:((t10.1).length:Int) > (2 * (Int.tdiv (((t3).length:Int)+2) 3))
     ·replace h:=Qk h h14
      cases h
     ·replace h:=Ql h h14
      obtain ⟨h15,h⟩:=Qf h
      obtain ⟨h16,h⟩:=Qf h
      obtain ⟨h17,h⟩:=Qf h
      obtain ⟨t18,h18,h⟩:=Qe h
      obtain ⟨t19,h19,h⟩:=Qe h
      obtain ⟨h20,h⟩:=Qf h
      by_cases h21:QU t10.1=true
      ·replace h:=Qk h h21
       obtain ⟨t22,h22,h⟩:=Qe h
       obtain ⟨t23,h23,h⟩:=Qe h
       obtain ⟨h24,h⟩:=Qf h
       obtain ⟨h25,h⟩:=Qf h
       obtain ⟨t26,h26,h⟩:=Qe h
       obtain ⟨t27,h27,h⟩:=Qe h
       obtain ⟨t28,h28,h⟩:=Qe h
       obtain ⟨t29,h29,h⟩:=Qe h
       obtain ⟨h30,h⟩:=Qf h
       obtain ⟨h31,h⟩:=Qf h
       obtain ⟨h32,h⟩:=Qf h
       obtain ⟨h33,h⟩:=Qf h
       obtain ⟨h34,h⟩:=Qf h
       by_cases h35:(((((t22.2+t23.2)+t26.2.2.2)+t27.2)+t28.2)+t29.2)=0
       ·replace h:=Qk h h35
        obtain ⟨t36,h36,h⟩:=Qe h
        by_cases h37:t36=true
        ·replace h:=Qk h h37
         by_cases h38:((t23.1).length:Int)=0
         ·replace h:=Qk h h38
          obtain ⟨t39,h39,h⟩:=Qe h
          by_cases h40:t39=true
          ·replace h:=Qk h h40
           obtain ⟨h41,h⟩:=Qf h
           by_cases h42:(t27.1+t28.1)=t29.1
           ·replace h:=Qk h h42
            obtain ⟨t43,h43,h⟩:=Qe h
            replace h:=Option.some.inj h
            subst h
            exact run (n:=100) (f:=3) (args:=[.agg [I a0,I a1,.lst false 1 a2],.v (.int .u16 a3)]) (orc:=[.ret (B t1),.br false,.br true,.lp [3,1] [1,3,4] [0,8,12] (.exit 0) [(3,.own 12 0)] [(0,.box (.d (.agg [I a0,I a1,.lst false 1 a2]))),(12,.row 0 1 t3)] 42,.lp [] [1,2,5,6] [0,12] (.exit 0) [(1,.d (.v (.int .u16 a3))),(2,.ptr 0 0 0 0 0),(5,.own 12 0),(6,.d (I (Int.tdiv (((t3).length:Int)+2) 3)))] [(0,.box (.d (.agg [I a0,I a1,.lst false 1 a2]))),(12,.row 0 1 t6)] 69,.lp [7,1] [1,2,5,6,7,59,60] [0,12,72] (.exit 2) [(1,.d (.v (.int .u16 a3))),(2,.ptr 0 0 0 0 0),(5,.own 12 0),(6,.d (I (Int.tdiv (((t3).length:Int)+2) 3))),(7,.own 72 0)] [(0,.box (.d (.agg [I a0,I a1,.lst false 1 a2]))),(12,.row 0 1 t6),(72,.row 0 1 t7)] 148,.br true,.br true,.ret (.tup [.lst false 6 t10.1,.lst false 2 t10.2.1,I t10.2.2]),.br false,.br false,.br false,.br true,.br true,.br true,.ix (-8),.br true,.lp [] [1,2,5,6,14,17,18,19,20,21,147,148,149] [0,12,174,183,185,189,196] (.exit 4) [(1,.d (.v (.int .u16 a3))),(2,.ptr 0 0 0 0 0),(6,.d (I (Int.tdiv (((t3).length:Int)+2) 3))),(14,.d (.lst false 6 t10.1)),(17,.own 174 0),(18,.ptr 185 0 0 0 0),(19,.ptr 189 0 0 0 0),(20,.d (I t18.1)),(21,.d (I t18.2.1))] [(0,.box (.d (.agg [I a0,I a1,.lst false 1 a2]))),(174,.row 0 1 t18.2.2.1),(183,.row 0 1 t18.2.2.2.1),(185,.box (.agg [.d (I a0),.d (I a1),.own 183 0])),(189,.box (.agg [.d (I a0),.d (I a1),.own 196 0])),(196,.row 0 1 t18.2.2.2.2)] 387,.lp [27,1] [1,2,14,17,18,19,20,21,27,247,248] [0,174,183,185,189,196,390] (.exit 8) [(2,.ptr 0 0 0 0 0),(14,.d (.lst false 6 t10.1)),(18,.ptr 185 0 0 0 0),(19,.ptr 189 0 0 0 0),(27,.own 390 0)] [(0,.box (.d (.agg [I a0,I a1,.lst false 1 a2]))),(183,.row 0 1 t18.2.2.2.1),(185,.box (.agg [.d (I a0),.d (I a1),.own 183 0])),(189,.box (.agg [.d (I a0),.d (I a1),.own 196 0])),(196,.row 0 1 t18.2.2.2.2),(390,.row 0 1 t19)] 437,.br true,.br true,.ret (.tup [.lst false 1 t22.1,I t22.2]),.br true,.br true,.ret (.tup [.lst false 1 t23.1,I t23.2]),.no,.br true,.ix (-10),.br true,.no,.br true,.ix (-10),.br true,.ret (.tup [.agg [I t26.1,I t26.2.1,.lst false 1 t26.2.2.1],I t26.2.2.2]),.br true,.br true,.ix (-10),.br true,.ret (.tup [I t27.1,I t27.2]),.br true,.br true,.ix (-10),.br true,.ret (.tup [I t28.1,I t28.2]),.br true,.br true,.ix (-8),.br true,.ret (.tup [I t29.1,I t29.2]),.br true,.ret (B t36),.br true,.br true,.ret (B t39),.br true,.br true,.ret (B t43)]) (r:=B t43) (ob:=[Computes cx 5 [] (B t43),((t27.1+t28.1) == t29.1)=true,Qa (t27.1+t28.1),t39=true,Computes cx 16 [.agg [I t26.1,I t26.2.1,.lst false 1 t26.2.2.1],.agg [I a0,I a1,.lst false 1 a2]] (B t39),(((t23.1).length:Int) == 0)=true,t36=true,Computes cx 15 [.lst false 1 t22.1,.lst false 1 t19] (B t36),((((((t22.2+t23.2)+t26.2.2.2)+t27.2)+t28.2)+t29.2) == 0)=true,Qa (((((t22.2+t23.2)+t26.2.2.2)+t27.2)+t28.2)+t29.2),Qa ((((t22.2+t23.2)+t26.2.2.2)+t27.2)+t28.2),Qa (((t22.2+t23.2)+t26.2.2.2)+t27.2),Qa ((t22.2+t23.2)+t26.2.2.2),Qa (t22.2+t23.2),Computes cx 14 [.agg [I a0,I a1,.lst false 1 a2]] (.tup [I t29.1,I t29.2]),room cx 27 (0+(a2).length),Computes cx 14 [.agg [I a0,I a1,.lst false 1 t18.2.2.2.2]] (.tup [I t28.1,I t28.2]),room cx 27 (0+(t18.2.2.2.2).length),Computes cx 14 [.agg [I a0,I a1,.lst false 1 t18.2.2.2.1]] (.tup [I t27.1,I t27.2]),room cx 27 (0+(t18.2.2.2.1).length),Computes cx 12 [.agg [I a0,I a1,.lst false 1 t18.2.2.2.1],.agg [I a0,I a1,.lst false 1 t18.2.2.2.2]] (.tup [.agg [I t26.1,I t26.2.1,.lst false 1 t26.2.2.1],I t26.2.2.2]),room cx 27 (0+(t18.2.2.2.2).length),room cx 27 (0+(t18.2.2.2.1).length),Computes cx 11 [.lst true 6 [],I 8] (.tup [.lst false 1 t23.1,I t23.2]),QU t10.1=true,room cx 35 (0+(t10.1).length),Computes cx 11 [.lst true 6 [],I 7] (.tup [.lst false 1 t22.1,I t22.2]),QU t10.1=true,room cx 35 (0+(t10.1).length),QI cx (Qp cx.P 3 4) 358 0 false [(1,.d (.v (.int .u16 a3))),(2,.ptr 0 0 0 0 0),(14,.d (.lst false 6 t10.1)),(17,.own 174 0),(18,.ptr 185 0 0 0 0),(19,.ptr 189 0 0 0 0),(20,.d (I t18.1)),(21,.d (I t18.2.1)),(27,.own 390 0),(247,.d (I (Int.tdiv (((t3).length:Int)+2) 3))),(248,.d (I 0))] [(0,.box (.d (.agg [I a0,I a1,.lst false 1 a2]))),(174,.row 0 1 t18.2.2.1),(183,.row 0 1 t18.2.2.2.1),(185,.box (.agg [.d (I a0),.d (I a1),.own 183 0])),(189,.box (.agg [.d (I a0),.d (I a1),.own 196 0])),(196,.row 0 1 t18.2.2.2.2),(390,.row 0 1 [])] (.exit 8) [(2,.ptr 0 0 0 0 0),(14,.d (.lst false 6 t10.1)),(18,.ptr 185 0 0 0 0),(19,.ptr 189 0 0 0 0),(27,.own 390 0)] [(0,.box (.d (.agg [I a0,I a1,.lst false 1 a2]))),(183,.row 0 1 t18.2.2.2.1),(185,.box (.agg [.d (I a0),.d (I a1),.own 183 0])),(189,.box (.agg [.d (I a0),.d (I a1),.own 196 0])),(196,.row 0 1 t18.2.2.2.2),(390,.row 0 1 t19)],QI cx (Qp cx.P 3 2) 358 0 false [(1,.d (.v (.int .u16 a3))),(2,.ptr 0 0 0 0 0),(5,.own 12 0),(6,.d (I (Int.tdiv (((t3).length:Int)+2) 3))),(14,.d (.lst false 6 t10.1)),(17,.own 174 0),(18,.ptr 185 0 0 0 0),(19,.ptr 189 0 0 0 0),(20,.d (I (-1))),(21,.d (I (-1))),(147,.d (.lst false 6 t10.1)),(148,.d (I ((t10.1).length:Int))),(149,.d (I 0))] [(0,.box (.d (.agg [I a0,I a1,.lst false 1 a2]))),(12,.row 0 1 t6),(174,.row 0 1 (List.replicate (Int.toNat (Int.tdiv (((t3).length:Int)+2) 3)) (B false:D))),(183,.row 0 1 (List.replicate (Int.toNat ((a2).length:Int)) (.v (.float .f32 0):D))),(185,.box (.agg [.d (I a0),.d (I a1),.own 183 0])),(189,.box (.agg [.d (I a0),.d (I a1),.own 196 0])),(196,.row 0 1 a2)] (.exit 4) [(1,.d (.v (.int .u16 a3))),(2,.ptr 0 0 0 0 0),(6,.d (I (Int.tdiv (((t3).length:Int)+2) 3))),(14,.d (.lst false 6 t10.1)),(17,.own 174 0),(18,.ptr 185 0 0 0 0),(19,.ptr 189 0 0 0 0),(20,.d (I t18.1)),(21,.d (I t18.2.1))] [(0,.box (.d (.agg [I a0,I a1,.lst false 1 a2]))),(174,.row 0 1 t18.2.2.1),(183,.row 0 1 t18.2.2.2.1),(185,.box (.agg [.d (I a0),.d (I a1),.own 183 0])),(189,.box (.agg [.d (I a0),.d (I a1),.own 196 0])),(196,.row 0 1 t18.2.2.2.2)],room cx 27 (0+(a2).length),0≤((a2).length:Int)∧((a2).length:Int)≤((a2).length:Int)∧4 * ((a2).length:Int)≤281474976710656∧((a2).length:Int)≤9223372036854775807,0≤(Int.tdiv (((t3).length:Int)+2) 3)∧(Int.tdiv (((t3).length:Int)+2) 3)≤(Int.tdiv (((t3).length:Int)+2) 3)∧1 * (Int.tdiv (((t3).length:Int)+2) 3)≤281474976710656∧(Int.tdiv (((t3).length:Int)+2) 3)≤9223372036854775807,(decide (((t10.1).length:Int) > (2 * (Int.tdiv (((t3).length:Int)+2) 3))))=false,Qa (2 * (Int.tdiv (((t3).length:Int)+2) 3)),(decide (((t10.2.1).length:Int) > 0))=false,(t10.2.2 != 0)=false,Computes cx 8 [.lst true 1 []] (.tup [.lst false 6 t10.1,.lst false 2 t10.2.1,I t10.2.2]),QU t7=true,room cx 5 (0+(t7).length),QI cx (Qp cx.P 3 1) 358 0 false [(1,.d (.v (.int .u16 a3))),(2,.ptr 0 0 0 0 0),(5,.own 12 0),(6,.d (I (Int.tdiv (((t3).length:Int)+2) 3))),(7,.own 72 0),(59,.d (I (Int.tdiv (((t3).length:Int)+2) 3))),(60,.d (I 0))] [(0,.box (.d (.agg [I a0,I a1,.lst false 1 a2]))),(12,.row 0 1 t6),(72,.row 0 1 [])] (.exit 2) [(1,.d (.v (.int .u16 a3))),(2,.ptr 0 0 0 0 0),(5,.own 12 0),(6,.d (I (Int.tdiv (((t3).length:Int)+2) 3))),(7,.own 72 0)] [(0,.box (.d (.agg [I a0,I a1,.lst false 1 a2]))),(12,.row 0 1 t6),(72,.row 0 1 t7)],QI cx (Qp cx.P 3 0) 358 0 false [(1,.d (.v (.int .u16 a3))),(2,.ptr 0 0 0 0 0),(5,.own 12 0),(6,.d (I (Int.tdiv (((t3).length:Int)+2) 3)))] [(0,.box (.d (.agg [I a0,I a1,.lst false 1 a2]))),(12,.row 0 1 t3)] (.exit 0) [(1,.d (.v (.int .u16 a3))),(2,.ptr 0 0 0 0 0),(5,.own 12 0),(6,.d (I (Int.tdiv (((t3).length:Int)+2) 3)))] [(0,.box (.d (.agg [I a0,I a1,.lst false 1 a2]))),(12,.row 0 1 t6)],(3:Int)≠0,Qa (Int.tdiv (((t3).length:Int)+2) 3),Qa (((t3).length:Int)+2),QI cx (Qp cx.P 6 0) 22 8 false [(1,.ptr 8 0 0 0 0),(3,.own 12 0),(4,.d (I 0))] [(0,.box (.d (.agg [I a0,I a1,.lst false 1 a2]))),(8,.box (.d (.agg [I a0,I a1,.lst false 1 a2]))),(12,.row 0 1 [])] (.exit 0) [(3,.own 12 0)] [(0,.box (.d (.agg [I a0,I a1,.lst false 1 a2]))),(12,.row 0 1 t3)],(!t1)=false,Computes cx 4 [.agg [I a0,I a1,.lst false 1 a2],I 36,.v (.float .f32 1149239296)] (B t1)]) (JM a0 a1 a2 a3 t1 t3 t6 t7 t10 t18 t19 t22 t23 t26 t27 t28 t29 t36 t39 t43) ⟨(Yq h43),(eqt h42),h41,h40,(Vo h39),(eqt h38),h37,(Vc h36),(eqt h35),h34,h33,h32,h31,h30,(Ze h29),(Qz (b:=4) (by kernel_rfl) (by decide) h17),(Ze h28),(Qz (b:=4) (by kernel_rfl) (by decide) h25),(Ze h27),(Qz (b:=4) (by kernel_rfl) (by decide) h24),(Yc h26),(Qz (b:=4) (by kernel_rfl) (by decide) h25),(Qz (b:=4) (by kernel_rfl) (by decide) h24),((ZR h23).le (.cons (.full _ _ _) (.cons (.refl _) (.nil))) (.refl _)),h21,(Qz (b:=48) (by kernel_rfl) (by decide) h20),((ZR h22).le (.cons (.full _ _ _) (.cons (.refl _) (.nil))) (.refl _)),h21,(Qz (b:=48) (by kernel_rfl) (by decide) h20),(Qx Wi h19),(Qx Wj h18),(Qz (b:=4) (by kernel_rfl) (by decide) h17),h16,h15,(decide_eq_false h14),h13,(decide_eq_false h12),(nef h11),(UP h10),h9,(Qz (b:=1) (by kernel_rfl) (by decide) h8),(Qx Wk h7),(Qx Wl h6),(by decide),h5,h4,(Qx Wm h3),(VS h2),(Ww h1),trivial⟩
           ·replace h:=Ql h h42
            cases h
          ·replace h:=Ql h h40
           cases h
         ·replace h:=Ql h h38
          cases h
        ·replace h:=Ql h h37
         cases h
       ·replace h:=Ql h h35
        cases h
      ·replace h:=Ql h h21
       obtain ⟨t22,h22,h⟩:=Qe h
       obtain ⟨t23,h23,h⟩:=Qe h
       obtain ⟨h24,h⟩:=Qf h
       obtain ⟨h25,h⟩:=Qf h
       obtain ⟨t26,h26,h⟩:=Qe h
       obtain ⟨t27,h27,h⟩:=Qe h
       obtain ⟨t28,h28,h⟩:=Qe h
       obtain ⟨t29,h29,h⟩:=Qe h
       obtain ⟨h30,h⟩:=Qf h
       obtain ⟨h31,h⟩:=Qf h
       obtain ⟨h32,h⟩:=Qf h
       obtain ⟨h33,h⟩:=Qf h
       obtain ⟨h34,h⟩:=Qf h
       by_cases h35:(((((t22.2+t23.2)+t26.2.2.2)+t27.2)+t28.2)+t29.2)=0
       ·replace h:=Qk h h35
        obtain ⟨t36,h36,h⟩:=Qe h
        by_cases h37:t36=true
        ·replace h:=Qk h h37
         by_cases h38:((t23.1).length:Int)=0
         ·replace h:=Qk h h38
          obtain ⟨t39,h39,h⟩:=Qe h
          by_cases h40:t39=true
          ·replace h:=Qk h h40
           obtain ⟨h41,h⟩:=Qf h
           by_cases h42:(t27.1+t28.1)=t29.1
           ·replace h:=Qk h h42
            obtain ⟨t43,h43,h⟩:=Qe h
            replace h:=Option.some.inj h
            subst h
            exact run (n:=100) (f:=3) (args:=[.agg [I a0,I a1,.lst false 1 a2],.v (.int .u16 a3)]) (orc:=[.ret (B t1),.br false,.br true,.lp [3,1] [1,3,4] [0,8,12] (.exit 0) [(3,.own 12 0)] [(0,.box (.d (.agg [I a0,I a1,.lst false 1 a2]))),(12,.row 0 1 t3)] 42,.lp [] [1,2,5,6] [0,12] (.exit 0) [(1,.d (.v (.int .u16 a3))),(2,.ptr 0 0 0 0 0),(5,.own 12 0),(6,.d (I (Int.tdiv (((t3).length:Int)+2) 3)))] [(0,.box (.d (.agg [I a0,I a1,.lst false 1 a2]))),(12,.row 0 1 t6)] 69,.lp [7,1] [1,2,5,6,7,59,60] [0,12,72] (.exit 2) [(1,.d (.v (.int .u16 a3))),(2,.ptr 0 0 0 0 0),(5,.own 12 0),(6,.d (I (Int.tdiv (((t3).length:Int)+2) 3))),(7,.own 72 0)] [(0,.box (.d (.agg [I a0,I a1,.lst false 1 a2]))),(12,.row 0 1 t6),(72,.row 0 1 t7)] 148,.br true,.br true,.ret (.tup [.lst false 6 t10.1,.lst false 2 t10.2.1,I t10.2.2]),.br false,.br false,.br false,.br true,.br true,.br true,.ix (-8),.br true,.lp [] [1,2,5,6,14,17,18,19,20,21,147,148,149] [0,12,174,183,185,189,196] (.exit 4) [(1,.d (.v (.int .u16 a3))),(2,.ptr 0 0 0 0 0),(6,.d (I (Int.tdiv (((t3).length:Int)+2) 3))),(14,.d (.lst false 6 t10.1)),(17,.own 174 0),(18,.ptr 185 0 0 0 0),(19,.ptr 189 0 0 0 0),(20,.d (I t18.1)),(21,.d (I t18.2.1))] [(0,.box (.d (.agg [I a0,I a1,.lst false 1 a2]))),(174,.row 0 1 t18.2.2.1),(183,.row 0 1 t18.2.2.2.1),(185,.box (.agg [.d (I a0),.d (I a1),.own 183 0])),(189,.box (.agg [.d (I a0),.d (I a1),.own 196 0])),(196,.row 0 1 t18.2.2.2.2)] 387,.lp [27,1] [1,2,14,17,18,19,20,21,27,247,248] [0,174,183,185,189,196,390] (.exit 8) [(2,.ptr 0 0 0 0 0),(14,.d (.lst false 6 t10.1)),(18,.ptr 185 0 0 0 0),(19,.ptr 189 0 0 0 0),(27,.own 390 0)] [(0,.box (.d (.agg [I a0,I a1,.lst false 1 a2]))),(183,.row 0 1 t18.2.2.2.1),(185,.box (.agg [.d (I a0),.d (I a1),.own 183 0])),(189,.box (.agg [.d (I a0),.d (I a1),.own 196 0])),(196,.row 0 1 t18.2.2.2.2),(390,.row 0 1 t19)] 437,.br true,.br false,.ret (.tup [.lst false 1 t22.1,I t22.2]),.br true,.br false,.ret (.tup [.lst false 1 t23.1,I t23.2]),.no,.br true,.ix (-10),.br true,.no,.br true,.ix (-10),.br true,.ret (.tup [.agg [I t26.1,I t26.2.1,.lst false 1 t26.2.2.1],I t26.2.2.2]),.br true,.br true,.ix (-10),.br true,.ret (.tup [I t27.1,I t27.2]),.br true,.br true,.ix (-10),.br true,.ret (.tup [I t28.1,I t28.2]),.br true,.br true,.ix (-8),.br true,.ret (.tup [I t29.1,I t29.2]),.br true,.ret (B t36),.br true,.br true,.ret (B t39),.br true,.br true,.ret (B t43)]) (r:=B t43) (ob:=[Computes cx 5 [] (B t43),((t27.1+t28.1) == t29.1)=true,Qa (t27.1+t28.1),t39=true,Computes cx 16 [.agg [I t26.1,I t26.2.1,.lst false 1 t26.2.2.1],.agg [I a0,I a1,.lst false 1 a2]] (B t39),(((t23.1).length:Int) == 0)=true,t36=true,Computes cx 15 [.lst false 1 t22.1,.lst false 1 t19] (B t36),((((((t22.2+t23.2)+t26.2.2.2)+t27.2)+t28.2)+t29.2) == 0)=true,Qa (((((t22.2+t23.2)+t26.2.2.2)+t27.2)+t28.2)+t29.2),Qa ((((t22.2+t23.2)+t26.2.2.2)+t27.2)+t28.2),Qa (((t22.2+t23.2)+t26.2.2.2)+t27.2),Qa ((t22.2+t23.2)+t26.2.2.2),Qa (t22.2+t23.2),Computes cx 14 [.agg [I a0,I a1,.lst false 1 a2]] (.tup [I t29.1,I t29.2]),room cx 27 (0+(a2).length),Computes cx 14 [.agg [I a0,I a1,.lst false 1 t18.2.2.2.2]] (.tup [I t28.1,I t28.2]),room cx 27 (0+(t18.2.2.2.2).length),Computes cx 14 [.agg [I a0,I a1,.lst false 1 t18.2.2.2.1]] (.tup [I t27.1,I t27.2]),room cx 27 (0+(t18.2.2.2.1).length),Computes cx 12 [.agg [I a0,I a1,.lst false 1 t18.2.2.2.1],.agg [I a0,I a1,.lst false 1 t18.2.2.2.2]] (.tup [.agg [I t26.1,I t26.2.1,.lst false 1 t26.2.2.1],I t26.2.2.2]),room cx 27 (0+(t18.2.2.2.2).length),room cx 27 (0+(t18.2.2.2.1).length),Computes cx 11 [.lst false 6 t10.1,I 8] (.tup [.lst false 1 t23.1,I t23.2]),QU t10.1=false,room cx 35 (0+(t10.1).length),Computes cx 11 [.lst false 6 t10.1,I 7] (.tup [.lst false 1 t22.1,I t22.2]),QU t10.1=false,room cx 35 (0+(t10.1).length),QI cx (Qp cx.P 3 4) 358 0 false [(1,.d (.v (.int .u16 a3))),(2,.ptr 0 0 0 0 0),(14,.d (.lst false 6 t10.1)),(17,.own 174 0),(18,.ptr 185 0 0 0 0),(19,.ptr 189 0 0 0 0),(20,.d (I t18.1)),(21,.d (I t18.2.1)),(27,.own 390 0),(247,.d (I (Int.tdiv (((t3).length:Int)+2) 3))),(248,.d (I 0))] [(0,.box (.d (.agg [I a0,I a1,.lst false 1 a2]))),(174,.row 0 1 t18.2.2.1),(183,.row 0 1 t18.2.2.2.1),(185,.box (.agg [.d (I a0),.d (I a1),.own 183 0])),(189,.box (.agg [.d (I a0),.d (I a1),.own 196 0])),(196,.row 0 1 t18.2.2.2.2),(390,.row 0 1 [])] (.exit 8) [(2,.ptr 0 0 0 0 0),(14,.d (.lst false 6 t10.1)),(18,.ptr 185 0 0 0 0),(19,.ptr 189 0 0 0 0),(27,.own 390 0)] [(0,.box (.d (.agg [I a0,I a1,.lst false 1 a2]))),(183,.row 0 1 t18.2.2.2.1),(185,.box (.agg [.d (I a0),.d (I a1),.own 183 0])),(189,.box (.agg [.d (I a0),.d (I a1),.own 196 0])),(196,.row 0 1 t18.2.2.2.2),(390,.row 0 1 t19)],QI cx (Qp cx.P 3 2) 358 0 false [(1,.d (.v (.int .u16 a3))),(2,.ptr 0 0 0 0 0),(5,.own 12 0),(6,.d (I (Int.tdiv (((t3).length:Int)+2) 3))),(14,.d (.lst false 6 t10.1)),(17,.own 174 0),(18,.ptr 185 0 0 0 0),(19,.ptr 189 0 0 0 0),(20,.d (I (-1))),(21,.d (I (-1))),(147,.d (.lst false 6 t10.1)),(148,.d (I ((t10.1).length:Int))),(149,.d (I 0))] [(0,.box (.d (.agg [I a0,I a1,.lst false 1 a2]))),(12,.row 0 1 t6),(174,.row 0 1 (List.replicate (Int.toNat (Int.tdiv (((t3).length:Int)+2) 3)) (B false:D))),(183,.row 0 1 (List.replicate (Int.toNat ((a2).length:Int)) (.v (.float .f32 0):D))),(185,.box (.agg [.d (I a0),.d (I a1),.own 183 0])),(189,.box (.agg [.d (I a0),.d (I a1),.own 196 0])),(196,.row 0 1 a2)] (.exit 4) [(1,.d (.v (.int .u16 a3))),(2,.ptr 0 0 0 0 0),(6,.d (I (Int.tdiv (((t3).length:Int)+2) 3))),(14,.d (.lst false 6 t10.1)),(17,.own 174 0),(18,.ptr 185 0 0 0 0),(19,.ptr 189 0 0 0 0),(20,.d (I t18.1)),(21,.d (I t18.2.1))] [(0,.box (.d (.agg [I a0,I a1,.lst false 1 a2]))),(174,.row 0 1 t18.2.2.1),(183,.row 0 1 t18.2.2.2.1),(185,.box (.agg [.d (I a0),.d (I a1),.own 183 0])),(189,.box (.agg [.d (I a0),.d (I a1),.own 196 0])),(196,.row 0 1 t18.2.2.2.2)],room cx 27 (0+(a2).length),0≤((a2).length:Int)∧((a2).length:Int)≤((a2).length:Int)∧4 * ((a2).length:Int)≤281474976710656∧((a2).length:Int)≤9223372036854775807,0≤(Int.tdiv (((t3).length:Int)+2) 3)∧(Int.tdiv (((t3).length:Int)+2) 3)≤(Int.tdiv (((t3).length:Int)+2) 3)∧1 * (Int.tdiv (((t3).length:Int)+2) 3)≤281474976710656∧(Int.tdiv (((t3).length:Int)+2) 3)≤9223372036854775807,(decide (((t10.1).length:Int) > (2 * (Int.tdiv (((t3).length:Int)+2) 3))))=false,Qa (2 * (Int.tdiv (((t3).length:Int)+2) 3)),(decide (((t10.2.1).length:Int) > 0))=false,(t10.2.2 != 0)=false,Computes cx 8 [.lst true 1 []] (.tup [.lst false 6 t10.1,.lst false 2 t10.2.1,I t10.2.2]),QU t7=true,room cx 5 (0+(t7).length),QI cx (Qp cx.P 3 1) 358 0 false [(1,.d (.v (.int .u16 a3))),(2,.ptr 0 0 0 0 0),(5,.own 12 0),(6,.d (I (Int.tdiv (((t3).length:Int)+2) 3))),(7,.own 72 0),(59,.d (I (Int.tdiv (((t3).length:Int)+2) 3))),(60,.d (I 0))] [(0,.box (.d (.agg [I a0,I a1,.lst false 1 a2]))),(12,.row 0 1 t6),(72,.row 0 1 [])] (.exit 2) [(1,.d (.v (.int .u16 a3))),(2,.ptr 0 0 0 0 0),(5,.own 12 0),(6,.d (I (Int.tdiv (((t3).length:Int)+2) 3))),(7,.own 72 0)] [(0,.box (.d (.agg [I a0,I a1,.lst false 1 a2]))),(12,.row 0 1 t6),(72,.row 0 1 t7)],QI cx (Qp cx.P 3 0) 358 0 false [(1,.d (.v (.int .u16 a3))),(2,.ptr 0 0 0 0 0),(5,.own 12 0),(6,.d (I (Int.tdiv (((t3).length:Int)+2) 3)))] [(0,.box (.d (.agg [I a0,I a1,.lst false 1 a2]))),(12,.row 0 1 t3)] (.exit 0) [(1,.d (.v (.int .u16 a3))),(2,.ptr 0 0 0 0 0),(5,.own 12 0),(6,.d (I (Int.tdiv (((t3).length:Int)+2) 3)))] [(0,.box (.d (.agg [I a0,I a1,.lst false 1 a2]))),(12,.row 0 1 t6)],(3:Int)≠0,Qa (Int.tdiv (((t3).length:Int)+2) 3),Qa (((t3).length:Int)+2),QI cx (Qp cx.P 6 0) 22 8 false [(1,.ptr 8 0 0 0 0),(3,.own 12 0),(4,.d (I 0))] [(0,.box (.d (.agg [I a0,I a1,.lst false 1 a2]))),(8,.box (.d (.agg [I a0,I a1,.lst false 1 a2]))),(12,.row 0 1 [])] (.exit 0) [(3,.own 12 0)] [(0,.box (.d (.agg [I a0,I a1,.lst false 1 a2]))),(12,.row 0 1 t3)],(!t1)=false,Computes cx 4 [.agg [I a0,I a1,.lst false 1 a2],I 36,.v (.float .f32 1149239296)] (B t1)]) (JL a0 a1 a2 a3 t1 t3 t6 t7 t10 t18 t19 t22 t23 t26 t27 t28 t29 t36 t39 t43) ⟨(Yq h43),(eqt h42),h41,h40,(Vo h39),(eqt h38),h37,(Vc h36),(eqt h35),h34,h33,h32,h31,h30,(Ze h29),(Qz (b:=4) (by kernel_rfl) (by decide) h17),(Ze h28),(Qz (b:=4) (by kernel_rfl) (by decide) h25),(Ze h27),(Qz (b:=4) (by kernel_rfl) (by decide) h24),(Yc h26),(Qz (b:=4) (by kernel_rfl) (by decide) h25),(Qz (b:=4) (by kernel_rfl) (by decide) h24),(ZR h23),(Qy h21),(Qz (b:=48) (by kernel_rfl) (by decide) h20),(ZR h22),(Qy h21),(Qz (b:=48) (by kernel_rfl) (by decide) h20),(Qx Wi h19),(Qx Wj h18),(Qz (b:=4) (by kernel_rfl) (by decide) h17),h16,h15,(decide_eq_false h14),h13,(decide_eq_false h12),(nef h11),(UP h10),h9,(Qz (b:=1) (by kernel_rfl) (by decide) h8),(Qx Wk h7),(Qx Wl h6),(by decide),h5,h4,(Qx Wm h3),(VS h2),(Ww h1),trivial⟩
           ·replace h:=Ql h h42
            cases h
          ·replace h:=Ql h h40
           cases h
         ·replace h:=Ql h h38
          cases h
        ·replace h:=Ql h h37
         cases h
       ·replace h:=Ql h h35
        cases h
   ·replace h:=Ql h h11
    cases h
  ·replace h:=Ql h h9
   obtain ⟨t10,h10,h⟩:=Qe h
   by_cases h11:t10.2.2=0
   ·replace h:=Qk h h11
    by_cases h12:((t10.2.1).length:Int) > 0
    ·replace h:=Qk h h12
     cases h
    ·replace h:=Ql h h12
     obtain ⟨h13,h⟩:=Qf h
     by_cases h14:((t10.1).length:Int) > (2 * (Int.tdiv (((t3).length:Int)+2) 3))
     ·replace h:=Qk h h14
      cases h
     ·replace h:=Ql h h14
      obtain ⟨h15,h⟩:=Qf h
      obtain ⟨h16,h⟩:=Qf h
      obtain ⟨h17,h⟩:=Qf h
      obtain ⟨t18,h18,h⟩:=Qe h
      obtain ⟨t19,h19,h⟩:=Qe h
      obtain ⟨h20,h⟩:=Qf h
      by_cases h21:QU t10.1=true
      ·replace h:=Qk h h21
       obtain ⟨t22,h22,h⟩:=Qe h
       obtain ⟨t23,h23,h⟩:=Qe h
       obtain ⟨h24,h⟩:=Qf h
       obtain ⟨h25,h⟩:=Qf h
       obtain ⟨t26,h26,h⟩:=Qe h
       obtain ⟨t27,h27,h⟩:=Qe h
       obtain ⟨t28,h28,h⟩:=Qe h
       obtain ⟨t29,h29,h⟩:=Qe h
       obtain ⟨h30,h⟩:=Qf h
       obtain ⟨h31,h⟩:=Qf h
       obtain ⟨h32,h⟩:=Qf h
       obtain ⟨h33,h⟩:=Qf h
       obtain ⟨h34,h⟩:=Qf h
       by_cases h35:(((((t22.2+t23.2)+t26.2.2.2)+t27.2)+t28.2)+t29.2)=0
       ·replace h:=Qk h h35
        obtain ⟨t36,h36,h⟩:=Qe h
        by_cases h37:t36=true
        ·replace h:=Qk h h37
         by_cases h38:((t23.1).length:Int)=0
         ·replace h:=Qk h h38
          obtain ⟨t39,h39,h⟩:=Qe h
          by_cases h40:t39=true
          ·replace h:=Qk h h40
           obtain ⟨h41,h⟩:=Qf h
           by_cases h42:(t27.1+t28.1)=t29.1
           ·replace h:=Qk h h42
            obtain ⟨t43,h43,h⟩:=Qe h
            replace h:=Option.some.inj h
            subst h
            exact run (n:=100) (f:=3) (args:=[.agg [I a0,I a1,.lst false 1 a2],.v (.int .u16 a3)]) (orc:=[.ret (B t1),.br false,.br true,.lp [3,1] [1,3,4] [0,8,12] (.exit 0) [(3,.own 12 0)] [(0,.box (.d (.agg [I a0,I a1,.lst false 1 a2]))),(12,.row 0 1 t3)] 42,.lp [] [1,2,5,6] [0,12] (.exit 0) [(1,.d (.v (.int .u16 a3))),(2,.ptr 0 0 0 0 0),(5,.own 12 0),(6,.d (I (Int.tdiv (((t3).length:Int)+2) 3)))] [(0,.box (.d (.agg [I a0,I a1,.lst false 1 a2]))),(12,.row 0 1 t6)] 69,.lp [7,1] [1,2,5,6,7,59,60] [0,12,72] (.exit 2) [(1,.d (.v (.int .u16 a3))),(2,.ptr 0 0 0 0 0),(5,.own 12 0),(6,.d (I (Int.tdiv (((t3).length:Int)+2) 3))),(7,.own 72 0)] [(0,.box (.d (.agg [I a0,I a1,.lst false 1 a2]))),(12,.row 0 1 t6),(72,.row 0 1 t7)] 148,.br true,.br false,.ret (.tup [.lst false 6 t10.1,.lst false 2 t10.2.1,I t10.2.2]),.br false,.br false,.br false,.br true,.br true,.br true,.ix (-8),.br true,.lp [] [1,2,5,6,14,17,18,19,20,21,147,148,149] [0,12,174,183,185,189,196] (.exit 4) [(1,.d (.v (.int .u16 a3))),(2,.ptr 0 0 0 0 0),(6,.d (I (Int.tdiv (((t3).length:Int)+2) 3))),(14,.d (.lst false 6 t10.1)),(17,.own 174 0),(18,.ptr 185 0 0 0 0),(19,.ptr 189 0 0 0 0),(20,.d (I t18.1)),(21,.d (I t18.2.1))] [(0,.box (.d (.agg [I a0,I a1,.lst false 1 a2]))),(174,.row 0 1 t18.2.2.1),(183,.row 0 1 t18.2.2.2.1),(185,.box (.agg [.d (I a0),.d (I a1),.own 183 0])),(189,.box (.agg [.d (I a0),.d (I a1),.own 196 0])),(196,.row 0 1 t18.2.2.2.2)] 387,.lp [27,1] [1,2,14,17,18,19,20,21,27,247,248] [0,174,183,185,189,196,390] (.exit 8) [(2,.ptr 0 0 0 0 0),(14,.d (.lst false 6 t10.1)),(18,.ptr 185 0 0 0 0),(19,.ptr 189 0 0 0 0),(27,.own 390 0)] [(0,.box (.d (.agg [I a0,I a1,.lst false 1 a2]))),(183,.row 0 1 t18.2.2.2.1),(185,.box (.agg [.d (I a0),.d (I a1),.own 183 0])),(189,.box (.agg [.d (I a0),.d (I a1),.own 196 0])),(196,.row 0 1 t18.2.2.2.2),(390,.row 0 1 t19)] 437,.br true,.br true,.ret (.tup [.lst false 1 t22.1,I t22.2]),.br true,.br true,.ret (.tup [.lst false 1 t23.1,I t23.2]),.no,.br true,.ix (-10),.br true,.no,.br true,.ix (-10),.br true,.ret (.tup [.agg [I t26.1,I t26.2.1,.lst false 1 t26.2.2.1],I t26.2.2.2]),.br true,.br true,.ix (-10),.br true,.ret (.tup [I t27.1,I t27.2]),.br true,.br true,.ix (-10),.br true,.ret (.tup [I t28.1,I t28.2]),.br true,.br true,.ix (-8),.br true,.ret (.tup [I t29.1,I t29.2]),.br true,.ret (B t36),.br true,.br true,.ret (B t39),.br true,.br true,.ret (B t43)]) (r:=B t43) (ob:=[Computes cx 5 [] (B t43),((t27.1+t28.1) == t29.1)=true,Qa (t27.1+t28.1),t39=true,Computes cx 16 [.agg [I t26.1,I t26.2.1,.lst false 1 t26.2.2.1],.agg [I a0,I a1,.lst false 1 a2]] (B t39),(((t23.1).length:Int) == 0)=true,t36=true,Computes cx 15 [.lst false 1 t22.1,.lst false 1 t19] (B t36),((((((t22.2+t23.2)+t26.2.2.2)+t27.2)+t28.2)+t29.2) == 0)=true,Qa (((((t22.2+t23.2)+t26.2.2.2)+t27.2)+t28.2)+t29.2),Qa ((((t22.2+t23.2)+t26.2.2.2)+t27.2)+t28.2),Qa (((t22.2+t23.2)+t26.2.2.2)+t27.2),Qa ((t22.2+t23.2)+t26.2.2.2),Qa (t22.2+t23.2),Computes cx 14 [.agg [I a0,I a1,.lst false 1 a2]] (.tup [I t29.1,I t29.2]),room cx 27 (0+(a2).length),Computes cx 14 [.agg [I a0,I a1,.lst false 1 t18.2.2.2.2]] (.tup [I t28.1,I t28.2]),room cx 27 (0+(t18.2.2.2.2).length),Computes cx 14 [.agg [I a0,I a1,.lst false 1 t18.2.2.2.1]] (.tup [I t27.1,I t27.2]),room cx 27 (0+(t18.2.2.2.1).length),Computes cx 12 [.agg [I a0,I a1,.lst false 1 t18.2.2.2.1],.agg [I a0,I a1,.lst false 1 t18.2.2.2.2]] (.tup [.agg [I t26.1,I t26.2.1,.lst false 1 t26.2.2.1],I t26.2.2.2]),room cx 27 (0+(t18.2.2.2.2).length),room cx 27 (0+(t18.2.2.2.1).length),Computes cx 11 [.lst true 6 [],I 8] (.tup [.lst false 1 t23.1,I t23.2]),QU t10.1=true,room cx 35 (0+(t10.1).length),Computes cx 11 [.lst true 6 [],I 7] (.tup [.lst false 1 t22.1,I t22.2]),QU t10.1=true,room cx 35 (0+(t10.1).length),QI cx (Qp cx.P 3 4) 358 0 false [(1,.d (.v (.int .u16 a3))),(2,.ptr 0 0 0 0 0),(14,.d (.lst false 6 t10.1)),(17,.own 174 0),(18,.ptr 185 0 0 0 0),(19,.ptr 189 0 0 0 0),(20,.d (I t18.1)),(21,.d (I t18.2.1)),(27,.own 390 0),(247,.d (I (Int.tdiv (((t3).length:Int)+2) 3))),(248,.d (I 0))] [(0,.box (.d (.agg [I a0,I a1,.lst false 1 a2]))),(174,.row 0 1 t18.2.2.1),(183,.row 0 1 t18.2.2.2.1),(185,.box (.agg [.d (I a0),.d (I a1),.own 183 0])),(189,.box (.agg [.d (I a0),.d (I a1),.own 196 0])),(196,.row 0 1 t18.2.2.2.2),(390,.row 0 1 [])] (.exit 8) [(2,.ptr 0 0 0 0 0),(14,.d (.lst false 6 t10.1)),(18,.ptr 185 0 0 0 0),(19,.ptr 189 0 0 0 0),(27,.own 390 0)] [(0,.box (.d (.agg [I a0,I a1,.lst false 1 a2]))),(183,.row 0 1 t18.2.2.2.1),(185,.box (.agg [.d (I a0),.d (I a1),.own 183 0])),(189,.box (.agg [.d (I a0),.d (I a1),.own 196 0])),(196,.row 0 1 t18.2.2.2.2),(390,.row 0 1 t19)],QI cx (Qp cx.P 3 2) 358 0 false [(1,.d (.v (.int .u16 a3))),(2,.ptr 0 0 0 0 0),(5,.own 12 0),(6,.d (I (Int.tdiv (((t3).length:Int)+2) 3))),(14,.d (.lst false 6 t10.1)),(17,.own 174 0),(18,.ptr 185 0 0 0 0),(19,.ptr 189 0 0 0 0),(20,.d (I (-1))),(21,.d (I (-1))),(147,.d (.lst false 6 t10.1)),(148,.d (I ((t10.1).length:Int))),(149,.d (I 0))] [(0,.box (.d (.agg [I a0,I a1,.lst false 1 a2]))),(12,.row 0 1 t6),(174,.row 0 1 (List.replicate (Int.toNat (Int.tdiv (((t3).length:Int)+2) 3)) (B false:D))),(183,.row 0 1 (List.replicate (Int.toNat ((a2).length:Int)) (.v (.float .f32 0):D))),(185,.box (.agg [.d (I a0),.d (I a1),.own 183 0])),(189,.box (.agg [.d (I a0),.d (I a1),.own 196 0])),(196,.row 0 1 a2)] (.exit 4) [(1,.d (.v (.int .u16 a3))),(2,.ptr 0 0 0 0 0),(6,.d (I (Int.tdiv (((t3).length:Int)+2) 3))),(14,.d (.lst false 6 t10.1)),(17,.own 174 0),(18,.ptr 185 0 0 0 0),(19,.ptr 189 0 0 0 0),(20,.d (I t18.1)),(21,.d (I t18.2.1))] [(0,.box (.d (.agg [I a0,I a1,.lst false 1 a2]))),(174,.row 0 1 t18.2.2.1),(183,.row 0 1 t18.2.2.2.1),(185,.box (.agg [.d (I a0),.d (I a1),.own 183 0])),(189,.box (.agg [.d (I a0),.d (I a1),.own 196 0])),(196,.row 0 1 t18.2.2.2.2)],room cx 27 (0+(a2).length),0≤((a2).length:Int)∧((a2).length:Int)≤((a2).length:Int)∧4 * ((a2).length:Int)≤281474976710656∧((a2).length:Int)≤9223372036854775807,0≤(Int.tdiv (((t3).length:Int)+2) 3)∧(Int.tdiv (((t3).length:Int)+2) 3)≤(Int.tdiv (((t3).length:Int)+2) 3)∧1 * (Int.tdiv (((t3).length:Int)+2) 3)≤281474976710656∧(Int.tdiv (((t3).length:Int)+2) 3)≤9223372036854775807,(decide (((t10.1).length:Int) > (2 * (Int.tdiv (((t3).length:Int)+2) 3))))=false,Qa (2 * (Int.tdiv (((t3).length:Int)+2) 3)),(decide (((t10.2.1).length:Int) > 0))=false,(t10.2.2 != 0)=false,Computes cx 8 [.lst false 1 t7] (.tup [.lst false 6 t10.1,.lst false 2 t10.2.1,I t10.2.2]),QU t7=false,room cx 5 (0+(t7).length),QI cx (Qp cx.P 3 1) 358 0 false [(1,.d (.v (.int .u16 a3))),(2,.ptr 0 0 0 0 0),(5,.own 12 0),(6,.d (I (Int.tdiv (((t3).length:Int)+2) 3))),(7,.own 72 0),(59,.d (I (Int.tdiv (((t3).length:Int)+2) 3))),(60,.d (I 0))] [(0,.box (.d (.agg [I a0,I a1,.lst false 1 a2]))),(12,.row 0 1 t6),(72,.row 0 1 [])] (.exit 2) [(1,.d (.v (.int .u16 a3))),(2,.ptr 0 0 0 0 0),(5,.own 12 0),(6,.d (I (Int.tdiv (((t3).length:Int)+2) 3))),(7,.own 72 0)] [(0,.box (.d (.agg [I a0,I a1,.lst false 1 a2]))),(12,.row 0 1 t6),(72,.row 0 1 t7)],QI cx (Qp cx.P 3 0) 358 0 false [(1,.d (.v (.int .u16 a3))),(2,.ptr 0 0 0 0 0),(5,.own 12 0),(6,.d (I (Int.tdiv (((t3).length:Int)+2) 3)))] [(0,.box (.d (.agg [I a0,I a1,.lst false 1 a2]))),(12,.row 0 1 t3)] (.exit 0) [(1,.d (.v (.int .u16 a3))),(2,.ptr 0 0 0 0 0),(5,.own 12 0),(6,.d (I (Int.tdiv (((t3).length:Int)+2) 3)))] [(0,.box (.d (.agg [I a0,I a1,.lst false 1 a2]))),(12,.row 0 1 t6)],(3:Int)≠0,Qa (Int.tdiv (((t3).length:Int)+2) 3),Qa (((t3).length:Int)+2),QI cx (Qp cx.P 6 0) 22 8 false [(1,.ptr 8 0 0 0 0),(3,.own 12 0),(4,.d (I 0))] [(0,.box (.d (.agg [I a0,I a1,.lst false 1 a2]))),(8,.box (.d (.agg [I a0,I a1,.lst false 1 a2]))),(12,.row 0 1 [])] (.exit 0) [(3,.own 12 0)] [(0,.box (.d (.agg [I a0,I a1,.lst false 1 a2]))),(12,.row 0 1 t3)],(!t1)=false,Computes cx 4 [.agg [I a0,I a1,.lst false 1 a2],I 36,.v (.float .f32 1149239296)] (B t1)]) (KQ a0 a1 a2 a3 t1 t3 t6 t7 t10 t18 t19 t22 t23 t26 t27 t28 t29 t36 t39 t43) ⟨(Yq h43),(eqt h42),h41,h40,(Vo h39),(eqt h38),h37,(Vc h36),(eqt h35),h34,h33,h32,h31,h30,(Ze h29),(Qz (b:=4) (by kernel_rfl) (by decide) h17),(Ze h28),(Qz (b:=4) (by kernel_rfl) (by decide) h25),(Ze h27),(Qz (b:=4) (by kernel_rfl) (by decide) h24),(Yc h26),(Qz (b:=4) (by kernel_rfl) (by decide) h25),(Qz (b:=4) (by kernel_rfl) (by decide) h24),((ZR h23).le (.cons (.full _ _ _) (.cons (.refl _) (.nil))) (.refl _)),h21,(Qz (b:=48) (by kernel_rfl) (by decide) h20),((ZR h22).le (.cons (.full _ _ _) (.cons (.refl _) (.nil))) (.refl _)),h21,(Qz (b:=48) (by kernel_rfl) (by decide) h20),(Qx Wi h19),(Qx Wj h18),(Qz (b:=4) (by kernel_rfl) (by decide) h17),h16,h15,(decide_eq_false h14),h13,(decide_eq_false h12),(nef h11),(Ud h10),(Qy h9),(Qz (b:=1) (by kernel_rfl) (by decide) h8),(Qx Wk h7),(Qx Wl h6),(by decide),h5,h4,(Qx Wm h3),(VS h2),(Ww h1),trivial⟩
           ·replace h:=Ql h h42
            cases h
          ·replace h:=Ql h h40
           cases h
         ·replace h:=Ql h h38
          cases h
        ·replace h:=Ql h h37
         cases h
       ·replace h:=Ql h h35
        cases h
      ·replace h:=Ql h h21
       obtain ⟨t22,h22,h⟩:=Qe h
       obtain ⟨t23,h23,h⟩:=Qe h
       obtain ⟨h24,h⟩:=Qf h
       obtain ⟨h25,h⟩:=Qf h
       obtain ⟨t26,h26,h⟩:=Qe h
       obtain ⟨t27,h27,h⟩:=Qe h
       obtain ⟨t28,h28,h⟩:=Qe h
       obtain ⟨t29,h29,h⟩:=Qe h
       obtain ⟨h30,h⟩:=Qf h
       obtain ⟨h31,h⟩:=Qf h
       obtain ⟨h32,h⟩:=Qf h
       obtain ⟨h33,h⟩:=Qf h
       obtain ⟨h34,h⟩:=Qf h
       by_cases h35:(((((t22.2+t23.2)+t26.2.2.2)+t27.2)+t28.2)+t29.2)=0
       ·replace h:=Qk h h35
        obtain ⟨t36,h36,h⟩:=Qe h
        by_cases h37:t36=true
        ·replace h:=Qk h h37
         by_cases h38:((t23.1).length:Int)=0
         ·replace h:=Qk h h38
          obtain ⟨t39,h39,h⟩:=Qe h
          by_cases h40:t39=true
          ·replace h:=Qk h h40
           obtain ⟨h41,h⟩:=Qf h
           by_cases h42:(t27.1+t28.1)=t29.1
           ·replace h:=Qk h h42
            obtain ⟨t43,h43,h⟩:=Qe h
            replace h:=Option.some.inj h
            subst h
            exact run (n:=100) (f:=3) (args:=[.agg [I a0,I a1,.lst false 1 a2],.v (.int .u16 a3)]) (orc:=[.ret (B t1),.br false,.br true,.lp [3,1] [1,3,4] [0,8,12] (.exit 0) [(3,.own 12 0)] [(0,.box (.d (.agg [I a0,I a1,.lst false 1 a2]))),(12,.row 0 1 t3)] 42,.lp [] [1,2,5,6] [0,12] (.exit 0) [(1,.d (.v (.int .u16 a3))),(2,.ptr 0 0 0 0 0),(5,.own 12 0),(6,.d (I (Int.tdiv (((t3).length:Int)+2) 3)))] [(0,.box (.d (.agg [I a0,I a1,.lst false 1 a2]))),(12,.row 0 1 t6)] 69,.lp [7,1] [1,2,5,6,7,59,60] [0,12,72] (.exit 2) [(1,.d (.v (.int .u16 a3))),(2,.ptr 0 0 0 0 0),(5,.own 12 0),(6,.d (I (Int.tdiv (((t3).length:Int)+2) 3))),(7,.own 72 0)] [(0,.box (.d (.agg [I a0,I a1,.lst false 1 a2]))),(12,.row 0 1 t6),(72,.row 0 1 t7)] 148,.br true,.br false,.ret (.tup [.lst false 6 t10.1,.lst false 2 t10.2.1,I t10.2.2]),.br false,.br false,.br false,.br true,.br true,.br true,.ix (-8),.br true,.lp [] [1,2,5,6,14,17,18,19,20,21,147,148,149] [0,12,174,183,185,189,196] (.exit 4) [(1,.d (.v (.int .u16 a3))),(2,.ptr 0 0 0 0 0),(6,.d (I (Int.tdiv (((t3).length:Int)+2) 3))),(14,.d (.lst false 6 t10.1)),(17,.own 174 0),(18,.ptr 185 0 0 0 0),(19,.ptr 189 0 0 0 0),(20,.d (I t18.1)),(21,.d (I t18.2.1))] [(0,.box (.d (.agg [I a0,I a1,.lst false 1 a2]))),(174,.row 0 1 t18.2.2.1),(183,.row 0 1 t18.2.2.2.1),(185,.box (.agg [.d (I a0),.d (I a1),.own 183 0])),(189,.box (.agg [.d (I a0),.d (I a1),.own 196 0])),(196,.row 0 1 t18.2.2.2.2)] 387,.lp [27,1] [1,2,14,17,18,19,20,21,27,247,248] [0,174,183,185,189,196,390] (.exit 8) [(2,.ptr 0 0 0 0 0),(14,.d (.lst false 6 t10.1)),(18,.ptr 185 0 0 0 0),(19,.ptr 189 0 0 0 0),(27,.own 390 0)] [(0,.box (.d (.agg [I a0,I a1,.lst false 1 a2]))),(183,.row 0 1 t18.2.2.2.1),(185,.box (.agg [.d (I a0),.d (I a1),.own 183 0])),(189,.box (.agg [.d (I a0),.d (I a1),.own 196 0])),(196,.row 0 1 t18.2.2.2.2),(390,.row 0 1 t19)] 437,.br true,.br false,.ret (.tup [.lst false 1 t22.1,I t22.2]),.br true,.br false,.ret (.tup [.lst false 1 t23.1,I t23.2]),.no,.br true,.ix (-10),.br true,.no,.br true,.ix (-10),.br true,.ret (.tup [.agg [I t26.1,I t26.2.1,.lst false 1 t26.2.2.1],I t26.2.2.2]),.br true,.br true,.ix (-10),.br true,.ret (.tup [I t27.1,I t27.2]),.br true,.br true,.ix (-10),.br true,.ret (.tup [I t28.1,I t28.2]),.br true,.br true,.ix (-8),.br true,.ret (.tup [I t29.1,I t29.2]),.br true,.ret (B t36),.br true,.br true,.ret (B t39),.br true,.br true,.ret (B t43)]) (r:=B t43) (ob:=[Computes cx 5 [] (B t43),((t27.1+t28.1) == t29.1)=true,Qa (t27.1+t28.1),t39=true,Computes cx 16 [.agg [I t26.1,I t26.2.1,.lst false 1 t26.2.2.1],.agg [I a0,I a1,.lst false 1 a2]] (B t39),(((t23.1).length:Int) == 0)=true,t36=true,Computes cx 15 [.lst false 1 t22.1,.lst false 1 t19] (B t36),((((((t22.2+t23.2)+t26.2.2.2)+t27.2)+t28.2)+t29.2) == 0)=true,Qa (((((t22.2+t23.2)+t26.2.2.2)+t27.2)+t28.2)+t29.2),Qa ((((t22.2+t23.2)+t26.2.2.2)+t27.2)+t28.2),Qa (((t22.2+t23.2)+t26.2.2.2)+t27.2),Qa ((t22.2+t23.2)+t26.2.2.2),Qa (t22.2+t23.2),Computes cx 14 [.agg [I a0,I a1,.lst false 1 a2]] (.tup [I t29.1,I t29.2]),room cx 27 (0+(a2).length),Computes cx 14 [.agg [I a0,I a1,.lst false 1 t18.2.2.2.2]] (.tup [I t28.1,I t28.2]),room cx 27 (0+(t18.2.2.2.2).length),Computes cx 14 [.agg [I a0,I a1,.lst false 1 t18.2.2.2.1]] (.tup [I t27.1,I t27.2]),room cx 27 (0+(t18.2.2.2.1).length),Computes cx 12 [.agg [I a0,I a1,.lst false 1 t18.2.2.2.1],.agg [I a0,I a1,.lst false 1 t18.2.2.2.2]] (.tup [.agg [I t26.1,I t26.2.1,.lst false 1 t26.2.2.1],I t26.2.2.2]),room cx 27 (0+(t18.2.2.2.2).length),room cx 27 (0+(t18.2.2.2.1).length),Computes cx 11 [.lst false 6 t10.1,I 8] (.tup [.lst false 1 t23.1,I t23.2]),QU t10.1=false,room cx 35 (0+(t10.1).length),Computes cx 11 [.lst false 6 t10.1,I 7] (.tup [.lst false 1 t22.1,I t22.2]),QU t10.1=false,room cx 35 (0+(t10.1).length),QI cx (Qp cx.P 3 4) 358 0 false [(1,.d (.v (.int .u16 a3))),(2,.ptr 0 0 0 0 0),(14,.d (.lst false 6 t10.1)),(17,.own 174 0),(18,.ptr 185 0 0 0 0),(19,.ptr 189 0 0 0 0),(20,.d (I t18.1)),(21,.d (I t18.2.1)),(27,.own 390 0),(247,.d (I (Int.tdiv (((t3).length:Int)+2) 3))),(248,.d (I 0))] [(0,.box (.d (.agg [I a0,I a1,.lst false 1 a2]))),(174,.row 0 1 t18.2.2.1),(183,.row 0 1 t18.2.2.2.1),(185,.box (.agg [.d (I a0),.d (I a1),.own 183 0])),(189,.box (.agg [.d (I a0),.d (I a1),.own 196 0])),(196,.row 0 1 t18.2.2.2.2),(390,.row 0 1 [])] (.exit 8) [(2,.ptr 0 0 0 0 0),(14,.d (.lst false 6 t10.1)),(18,.ptr 185 0 0 0 0),(19,.ptr 189 0 0 0 0),(27,.own 390 0)] [(0,.box (.d (.agg [I a0,I a1,.lst false 1 a2]))),(183,.row 0 1 t18.2.2.2.1),(185,.box (.agg [.d (I a0),.d (I a1),.own 183 0])),(189,.box (.agg [.d (I a0),.d (I a1),.own 196 0])),(196,.row 0 1 t18.2.2.2.2),(390,.row 0 1 t19)],QI cx (Qp cx.P 3 2) 358 0 false [(1,.d (.v (.int .u16 a3))),(2,.ptr 0 0 0 0 0),(5,.own 12 0),(6,.d (I (Int.tdiv (((t3).length:Int)+2) 3))),(14,.d (.lst false 6 t10.1)),(17,.own 174 0),(18,.ptr 185 0 0 0 0),(19,.ptr 189 0 0 0 0),(20,.d (I (-1))),(21,.d (I (-1))),(147,.d (.lst false 6 t10.1)),(148,.d (I ((t10.1).length:Int))),(149,.d (I 0))] [(0,.box (.d (.agg [I a0,I a1,.lst false 1 a2]))),(12,.row 0 1 t6),(174,.row 0 1 (List.replicate (Int.toNat (Int.tdiv (((t3).length:Int)+2) 3)) (B false:D))),(183,.row 0 1 (List.replicate (Int.toNat ((a2).length:Int)) (.v (.float .f32 0):D))),(185,.box (.agg [.d (I a0),.d (I a1),.own 183 0])),(189,.box (.agg [.d (I a0),.d (I a1),.own 196 0])),(196,.row 0 1 a2)] (.exit 4) [(1,.d (.v (.int .u16 a3))),(2,.ptr 0 0 0 0 0),(6,.d (I (Int.tdiv (((t3).length:Int)+2) 3))),(14,.d (.lst false 6 t10.1)),(17,.own 174 0),(18,.ptr 185 0 0 0 0),(19,.ptr 189 0 0 0 0),(20,.d (I t18.1)),(21,.d (I t18.2.1))] [(0,.box (.d (.agg [I a0,I a1,.lst false 1 a2]))),(174,.row 0 1 t18.2.2.1),(183,.row 0 1 t18.2.2.2.1),(185,.box (.agg [.d (I a0),.d (I a1),.own 183 0])),(189,.box (.agg [.d (I a0),.d (I a1),.own 196 0])),(196,.row 0 1 t18.2.2.2.2)],room cx 27 (0+(a2).length),0≤((a2).length:Int)∧((a2).length:Int)≤((a2).length:Int)∧4 * ((a2).length:Int)≤281474976710656∧((a2).length:Int)≤9223372036854775807,0≤(Int.tdiv (((t3).length:Int)+2) 3)∧(Int.tdiv (((t3).length:Int)+2) 3)≤(Int.tdiv (((t3).length:Int)+2) 3)∧1 * (Int.tdiv (((t3).length:Int)+2) 3)≤281474976710656∧(Int.tdiv (((t3).length:Int)+2) 3)≤9223372036854775807,(decide (((t10.1).length:Int) > (2 * (Int.tdiv (((t3).length:Int)+2) 3))))=false,Qa (2 * (Int.tdiv (((t3).length:Int)+2) 3)),(decide (((t10.2.1).length:Int) > 0))=false,(t10.2.2 != 0)=false,Computes cx 8 [.lst false 1 t7] (.tup [.lst false 6 t10.1,.lst false 2 t10.2.1,I t10.2.2]),QU t7=false,room cx 5 (0+(t7).length),QI cx (Qp cx.P 3 1) 358 0 false [(1,.d (.v (.int .u16 a3))),(2,.ptr 0 0 0 0 0),(5,.own 12 0),(6,.d (I (Int.tdiv (((t3).length:Int)+2) 3))),(7,.own 72 0),(59,.d (I (Int.tdiv (((t3).length:Int)+2) 3))),(60,.d (I 0))] [(0,.box (.d (.agg [I a0,I a1,.lst false 1 a2]))),(12,.row 0 1 t6),(72,.row 0 1 [])] (.exit 2) [(1,.d (.v (.int .u16 a3))),(2,.ptr 0 0 0 0 0),(5,.own 12 0),(6,.d (I (Int.tdiv (((t3).length:Int)+2) 3))),(7,.own 72 0)] [(0,.box (.d (.agg [I a0,I a1,.lst false 1 a2]))),(12,.row 0 1 t6),(72,.row 0 1 t7)],QI cx (Qp cx.P 3 0) 358 0 false [(1,.d (.v (.int .u16 a3))),(2,.ptr 0 0 0 0 0),(5,.own 12 0),(6,.d (I (Int.tdiv (((t3).length:Int)+2) 3)))] [(0,.box (.d (.agg [I a0,I a1,.lst false 1 a2]))),(12,.row 0 1 t3)] (.exit 0) [(1,.d (.v (.int .u16 a3))),(2,.ptr 0 0 0 0 0),(5,.own 12 0),(6,.d (I (Int.tdiv (((t3).length:Int)+2) 3)))] [(0,.box (.d (.agg [I a0,I a1,.lst false 1 a2]))),(12,.row 0 1 t6)],(3:Int)≠0,Qa (Int.tdiv (((t3).length:Int)+2) 3),Qa (((t3).length:Int)+2),QI cx (Qp cx.P 6 0) 22 8 false [(1,.ptr 8 0 0 0 0),(3,.own 12 0),(4,.d (I 0))] [(0,.box (.d (.agg [I a0,I a1,.lst false 1 a2]))),(8,.box (.d (.agg [I a0,I a1,.lst false 1 a2]))),(12,.row 0 1 [])] (.exit 0) [(3,.own 12 0)] [(0,.box (.d (.agg [I a0,I a1,.lst false 1 a2]))),(12,.row 0 1 t3)],(!t1)=false,Computes cx 4 [.agg [I a0,I a1,.lst false 1 a2],I 36,.v (.float .f32 1149239296)] (B t1)]) (KP a0 a1 a2 a3 t1 t3 t6 t7 t10 t18 t19 t22 t23 t26 t27 t28 t29 t36 t39 t43) ⟨(Yq h43),(eqt h42),h41,h40,(Vo h39),(eqt h38),h37,(Vc h36),(eqt h35),h34,h33,h32,h31,h30,(Ze h29),(Qz (b:=4) (by kernel_rfl) (by decide) h17),(Ze h28),(Qz (b:=4) (by kernel_rfl) (by decide) h25),(Ze h27),(Qz (b:=4) (by kernel_rfl) (by decide) h24),(Yc h26),(Qz (b:=4) (by kernel_rfl) (by decide) h25),(Qz (b:=4) (by kernel_rfl) (by decide) h24),(ZR h23),(Qy h21),(Qz (b:=48) (by kernel_rfl) (by decide) h20),(ZR h22),(Qy h21),(Qz (b:=48) (by kernel_rfl) (by decide) h20),(Qx Wi h19),(Qx Wj h18),(Qz (b:=4) (by kernel_rfl) (by decide) h17),h16,h15,(decide_eq_false h14),h13,(decide_eq_false h12),(nef h11),(Ud h10),(Qy h9),(Qz (b:=1) (by kernel_rfl) (by decide) h8),(Qx Wk h7),(Qx Wl h6),(by decide),h5,h4,(Qx Wm h3),(VS h2),(Ww h1),trivial⟩
           ·replace h:=Ql h h42
            cases h
          ·replace h:=Ql h h40
           cases h
         ·replace h:=Ql h h38
          cases h
        ·replace h:=Ql h h37
         cases h
       ·replace h:=Ql h h35
        cases h
   ·replace h:=Ql h h11
    cases h
 ·replace h:=Ql h h2
  obtain ⟨t3,h3,h⟩:=Qe h
  replace h:=Option.some.inj h
  subst h
  exact run (n:=100) (f:=3) (args:=[.agg [I a0,I a1,.lst false 1 a2],.v (.int .u16 a3)]) (orc:=[.ret (B t1),.br true,.ret (B t3)]) (r:=B t3) (ob:=[Computes cx 5 [] (B t3),(!t1)=true,Computes cx 4 [.agg [I a0,I a1,.lst false 1 a2],I 36,.v (.float .f32 1149239296)] (B t1)]) (KO a0 a1 a2 a3 t1 t3) ⟨(Yq h3),(qR (Qy h2)),(Ww h1),trivial⟩
set_option maxRecDepth 20000
open Go Ieee
theorem Qau {y:Nat} {s:Bool} {n:Nat} {p:Int} (hy:single.read y=.number s n p) (hp : -149≤p) (hb:Flo.vn n p≤2 ^ 2014) (hd:2 ^ 2000 ∣ Flo.vn n p) :
  ∃ Z:Nat,Flo.vn n p=Z * 2 ^ 2000∧f2i .f32 y .i64=some (if s then -(Z:Int) else (Z:Int)):=by
 obtain ⟨c1,c2⟩:=Flo.cut_whole (w:=.zero) (.inr rfl) s n p (by omega)
 obtain ⟨Z,hZ⟩:∃ Z,Z=Toward.zero.cut s (n <<< p.toNat) (-p).toNat:=⟨_,rfl⟩
 rw [← hZ] at c1 c2
 have hvZ:Flo.vn Z 0=Z * 2 ^ 2000:=by
  unfold Flo.vn
  rw [show ((0:Int)+2000).toNat=2000 from rfl]
 have hv:=c1.2 hd
 rw [hvZ] at hv
 have hZ16:Z < 2 ^ 16:=by
  have:Z * 2 ^ 2000 < 2 ^ 16 * 2 ^ 2000:=by omega
  generalize 2 ^ 2000=X at this
  exact Nat.lt_of_mul_lt_mul_right this
 obtain ⟨z,hz⟩:∃ z:Int,z=if s then -(Z:Int) else (Z:Int):=⟨_,rfl⟩
 have hto:(FloatKind.f32.decode y).toInt .zero=some z:=by
  show ((single.read y).toInt .zero)=_
  rw [hy]
  unfold Datum.toInt Datum.integral
  simp only [← hZ]
  unfold signed
  rw [Nat.shiftLeft_zero,hz]
 refine ⟨Z,hv.symm,?_⟩
 rw [← hz]
 unfold f2i
 rw [hto]
 show (if IntKind.i64.min≤z∧z≤IntKind.i64.max then some z else none)=_
 have e1:IntKind.i64.min=-9223372036854775808:=by decide
 have e2:IntKind.i64.max=9223372036854775807:=by decide
 rw [e1,e2,if_pos (by rw [hz];cases s <;> simp only [Bool.false_eq_true,if_false,if_true] <;> omega)]
def Smp (b:Nat) (s:Bool) (K:Nat):Prop:=K≤16384∧∃ m e,single.read b=.number s m e∧-149≤e∧16 * Flo.vn m e=K * 2 ^ 2000
def lev (b:Nat):Int:=(f2i .f32 ((fop .mul .f32 1098907648 b).getD 0) .i64).getD 0
def smp (k:Int):Nat:=(fop .quo .f32 (FloatKind.nearest .f32 k) 1098907648).getD 0
theorem Qao {a b X:Nat} (hX:0 < X) (h:a * X≤b * X):a≤b:=Nat.le_of_mul_le_mul_right h hX
theorem Ka {a b:Nat} (h:a≤b) (k:Nat):a * 2 ^ k≤b * 2 ^ k:=Nat.mul_le_mul_right _ h
theorem Qcg {a X K:Nat} (h:a=X * K):a=K * X:=by rw [h,Nat.mul_comm]
theorem uQ (p:Int) (k:Nat):16 * Flo.vn 0 p=0 * 2 ^ k:=by unfold Flo.vn;rw [Nat.zero_mul,Nat.zero_mul]
theorem qK {b:Nat} (h:chk b=0):∃ s K,Smp b s K:=by
 unfold chk at h
 cases hb:single.read b with
 | nan s t=>rw [hb] at h;cases h
 | infinity s=>rw [hb] at h;cases h
 | number s m e =>
  rw [hb] at h
  simp only at h
  split at h
  ·cases h
  ·rename_i h1
   split at h
   ·rename_i h2
    obtain ⟨K,hK⟩:=h2
    obtain ⟨_,h3,_⟩:=Flo.read_num hb
    have hc:=Qcg hK
    refine ⟨s,K,?_,m,e,hb,h3,hc⟩
    have h4:K * 2 ^ 2000≤16384 * 2 ^ 2000:=by
     rw [Nat.mul_comm K,← hK];omega
    have h5:=Nat.two_pow_pos 2000
    generalize 2 ^ 2000=X at h4 h5
    exact Qao h5 h4
   ·cases h
theorem Smp.chk {b:Nat} {s:Bool} {K:Nat} (h:Smp b s K):chk b=0:=by
 obtain ⟨h1,m,e,h2,h3,h4⟩:=h
 unfold Proofs.YtchbppgamelchaaDoor.chk
 rw [h2]
 simp only
 have h5:=Ka h1 2000
 rw [if_neg (by omega),if_pos ⟨K,by rw [h4,Nat.mul_comm]⟩]
def ke (s:Bool) (K:Nat):Int:=if s then -(K:Int) else (K:Int)
theorem Smp.mul {b:Nat} {s:Bool} {K:Nat} (h:Smp b s K):∃ y,fop .mul .f32 1098907648 b=some y∧f2i .f32 y .i64=some (ke s K):=by
 obtain ⟨h1,m,e,h2,h3,h4⟩:=h
 have h5:=Ka h1 2000
 obtain ⟨y,q,p,y1,y2,y3,y4,y5⟩:=Flo.mul16 h2 (by omega)
 obtain ⟨Z,z1,z2⟩:=Qau y2 y3 (by rw [y5];omega) (by rw [y5,h4];exact Nat.dvd_mul_left _ _)
 have hZ:Z=K:=by
  rw [y5,h4] at z1
  have h6:=Nat.two_pow_pos 2000
  generalize 2 ^ 2000=X at z1 h6
  exact (Nat.eq_of_mul_eq_mul_right h6 z1).symm
 subst hZ
 exact ⟨y,y1,z2⟩
theorem Smp.lev {b:Nat} {s:Bool} {K:Nat} (h:Smp b s K):lev b=ke s K:=by
 obtain ⟨y,h1,h2⟩:=h.mul
 unfold Proofs.YtchbppgamelchaaDoor.lev
 rw [h1,Option.getD_some,h2,Option.getD_some]
theorem Smp.level {b:Nat} {s:Bool} {K:Nat} (h:Smp b s K) (n:Nat):WP n b=some (Proofs.YtchbppgamelchaaDoor.lev b)∧ZK n b=some (Proofs.YtchbppgamelchaaDoor.lev b):=by
 obtain ⟨y,h1,h2⟩:=h.mul
 unfold WP ZK Proofs.YtchbppgamelchaaDoor.lev
 rw [h1]
 simp only [Option.isSome_some,if_true,Option.getD_some]
 rw [h2]
 simp only [Option.isSome_some,if_true,Option.getD_some]
 exact ⟨trivial,trivial⟩
theorem Qbi {b:Nat} (h:Proofs.YtchbppgamelchaaDoor.chk b=0) (n:Nat):WP n b=some (lev b):=by
 obtain ⟨s,K,h1⟩:=qK h
 exact (h1.level n).1
theorem zM {b:Nat} (h:Proofs.YtchbppgamelchaaDoor.chk b=0) (n:Nat):ZK n b=some (lev b):=by
 obtain ⟨s,K,h1⟩:=qK h
 exact (h1.level n).2
theorem Vz {b:Nat} (h:Proofs.YtchbppgamelchaaDoor.chk b=0) : -16384≤lev b∧lev b≤16384:=by
 obtain ⟨s,K,h1⟩:=qK h
 rw [h1.lev]
 have:=h1.1
 unfold ke
 cases s <;> simp only [Bool.false_eq_true,if_false,if_true] <;> omega
theorem Qde {x:Nat} {s:Bool} {m:Nat} {i:Int} {K:Nat} (hx:single.read x=.number s m i) (hm:m < 2 ^ 24) (hi : -149≤i) (hK:K≤16384) (hv:Flo.vn m i=K * 2 ^ 2000) :
  ∃ w,fop .quo .f32 x 1098907648=some w∧Smp w s K:=by
 have h16:single.read 1098907648=.number false 8388608 (-19):=by decide
 have hlog:m.log2≤23:=by
  by_cases h0:m=0
  ·subst h0;decide
  ·have:=(Nat.log2_lt h0).2 hm;omega
 obtain ⟨M,hM⟩:∃ M,M=single.fractionBits+2+(8388608:Nat).log2 - m.log2:=⟨_,rfl⟩
 have hM2:25≤M∧M≤48:=by
  have e1:single.fractionBits+2+(8388608:Nat).log2=48:=by decide
  rw [e1] at hM;omega
 obtain ⟨N,hN⟩:∃ N,M=N+23:=⟨M - 23,by omega⟩
 have hdiv:m <<< M / 8388608=m * 2 ^ N∧m <<< M % 8388608=0:=by
  rw [Nat.shiftLeft_eq,hN,Nat.pow_add,← Nat.mul_assoc,show (2:Nat) ^ 23=8388608 by decide]
  exact ⟨Nat.mul_div_cancel _ (by decide),Nat.mul_mod_left _ _⟩
 obtain ⟨G,hG⟩:∃ G,G=2 * (m * 2 ^ N)+0:=⟨_,rfl⟩
 have hq:(single.read x).quotient (single.fractionBits+2) (single.read 1098907648)=some (.number s G (i - (-19) - M - 1)):=by
  rw [hx,h16]
  unfold Datum.quotient
  simp only [← hM]
  rw [if_neg (by decide),hdiv.1,hdiv.2,Bool.xor_false,hG]
  rfl
 have hval:Flo.vn G (i - (-19) - M - 1)=K * 2 ^ 1996:=by
  have e1:Flo.vn G (i - (-19) - M - 1) * 16=Flo.vn m i:=by
   unfold Flo.vn
   obtain ⟨A,hA⟩:∃ A:Nat,A=(i - (-19) - M - 1+2000).toNat:=⟨_,rfl⟩
   rw [← hA,show (i+2000).toNat=N+(A+5) by omega,hG,Nat.pow_add 2 N,Nat.pow_add 2 A]
   generalize 2 ^ A=X
   generalize 2 ^ N=Y
   rw [show (2:Nat) ^ 5=32 by decide,Nat.add_zero,← Nat.mul_assoc m Y,← Nat.mul_assoc (m * Y)]
   rw [Nat.mul_assoc 2,Nat.mul_comm 2,Nat.mul_assoc]
  have e2:∀ k j:Nat,j=k+4→K * 2 ^ j=K * 2 ^ k * 16:=fun k j e=>by rw [e,Nat.pow_add,← Nat.mul_assoc]
  have e3:=e2 1996 2000 rfl
  rw [hv,e3] at e1
  generalize K * 2 ^ 1996=Y at e1
  omega
 have hval4:Flo.vn G (i - (-19) - M - 1)=Flo.vn K (-4):=by
  rw [hval]
  unfold Flo.vn
  rw [show ((-4:Int)+2000).toNat=1996 from rfl]
 have hKb:=Ka hK 1996
 obtain ⟨n,j,r1,r2,r3,r4⟩:=Flo.write_read Flo.f32 s (m:=G) (i:=i - (-19) - M - 1) (q:=K) (p:=-4) (by omega) (by omega) (by omega) hval4 (by rw [hval];omega)
 refine ⟨single.write (.number s G (i - (-19) - M - 1)),?_,hK,n,j,r1,r2,?_⟩
 ·show single.div x 1098907648=_
  unfold Format.div
  rw [hq];rfl
 ·rw [r4,hval]
  have e2:∀ k j:Nat,j=k+4→16 * (K * 2 ^ k)=K * 2 ^ j:=fun k j e=>by rw [e,Nat.pow_add,← Nat.mul_assoc K];omega
  have q:=e2 1996 2000 rfl
  exact q
theorem QbY {k:Int} (h : -16384≤k∧k≤16384):∃ w,fop .quo .f32 (FloatKind.nearest .f32 k) 1098907648=some w∧Smp w (decide (k < 0)) k.natAbs:=by
 have hv0:Flo.vn k.natAbs 0=k.natAbs * 2 ^ 2000:=by
  unfold Flo.vn
  rw [show ((0:Int)+2000).toNat=2000 from rfl]
 have hK:k.natAbs≤16384:=by omega
 have hKb:=Ka hK 2000
 obtain ⟨n,j,r1,r2,r3,r4⟩:=Flo.write_read Flo.f32 (decide (k < 0)) (m:=k.natAbs) (i:=0) (q:=k.natAbs) (p:=0) (by omega) (by omega) (by omega) rfl (by rw [hv0];omega)
 exact Qde (x:=FloatKind.nearest .f32 k) r1 r3 r2 hK (by rw [r4,hv0])
theorem QaV (k:Int):ke (decide (k < 0)) k.natAbs=k:=by
 unfold ke
 by_cases h:k < 0
 ·rw [decide_eq_true h,if_pos rfl];omega
 ·rw [decide_eq_false h,if_neg (by decide)];omega
theorem X7 {k:Int} (h : -16384≤k∧k≤16384):Proofs.YtchbppgamelchaaDoor.chk (smp k)=0∧lev (smp k)=k∧(∀ n,W2 n k=some (smp k))∧∀ n,QG n k=some (smp k):=by
 obtain ⟨w,h1,h2⟩:=QbY h
 have e:smp k=w:=by unfold smp;rw [h1,Option.getD_some]
 rw [e]
 refine ⟨h2.chk,by rw [h2.lev,QaV],fun n=>?_,fun n=>?_⟩
 ·unfold W2
  rw [h1];rfl
 ·unfold QG
  rw [h1];rfl
theorem QcC {a b:Nat} {s t:Bool} {K L:Nat} (ha:Smp a s K) (hb:Smp b t L) (h:ke s K=ke t L):single.order a b=some .eq:=by
 obtain ⟨_,m,e,a1,a2,a3⟩:=ha
 obtain ⟨_,n,j,b1,b2,b3⟩:=hb
 unfold Format.order
 rw [a1,b1,Flo.order_val (by omega) (by omega),Flo.V_eq,Flo.V_eq]
 have hKL:K=L∧(K=0 ∨ s=t):=by
  unfold ke at h
  cases s <;> cases t <;> simp only [Bool.false_eq_true,if_false,if_true] at h <;> refine ⟨by omega,?_⟩
  ·exact .inr rfl
  ·left;omega
  ·left;omega
  ·exact .inr rfl
 obtain ⟨rfl,h2⟩:=hKL
 have hvv:Flo.vn m e=Flo.vn n j:=by omega
 rw [hvv,Int.compare_eq_eq.2]
 rcases h2 with h0 | h0
 ·subst h0
  have:Flo.vn n j=0:=by omega
  rw [this];cases s <;> cases t <;> rfl
 ·rw [h0]
theorem QcJ {a b:Nat} (ha:Proofs.YtchbppgamelchaaDoor.chk a=0) (hb:Proofs.YtchbppgamelchaaDoor.chk b=0) (h:lev a=lev b):single.order a b=some .eq:=by
 obtain ⟨s,K,h1⟩:=qK ha
 obtain ⟨t,L,h2⟩:=qK hb
 exact QcC h1 h2 (by rw [← h1.lev,← h2.lev,h])
theorem QbS:Proofs.YtchbppgamelchaaDoor.chk 0=0∧lev 0=0:=by
 have h:Smp 0 false 0:=⟨by omega,0,-149,by decide,by omega,uQ (-149) 2000⟩
 exact ⟨h.chk,h.lev⟩
def u8 (x:Int):D:=.v (.int .u8 x)
theorem Qcn (x:Int):wW (u8 x)=some x:=rfl
theorem wu8 (x:Int):IntKind.wrap .u8 x=x % 256:=by simp [IntKind.wrap,IntKind.bits,IntKind.signed]
theorem wi64 {x:Int} (h : -9223372036854775808≤x∧x≤9223372036854775807):IntKind.wrap .i64 x=x:=by
 rw [IntKind.wrap_i64];omega
theorem fd0 (x:Int):Int.fdiv x (2 ^ 0)=x:=by rw [show (2:Int) ^ 0=1 by decide,Int.fdiv_eq_ediv_of_nonneg x (by decide)];omega
theorem fd8 (x:Int):Int.fdiv x (2 ^ 8)=x / 256:=by rw [show (2:Int) ^ 8=256 by decide,Int.fdiv_eq_ediv_of_nonneg x (by decide)]
theorem fd16 (x:Int):Int.fdiv x (2 ^ 16)=x / 65536:=by rw [show (2:Int) ^ 16=65536 by decide,Int.fdiv_eq_ediv_of_nonneg x (by decide)]
theorem fd24 (x:Int):Int.fdiv x (2 ^ 24)=x / 16777216:=by rw [show (2:Int) ^ 24=16777216 by decide,Int.fdiv_eq_ediv_of_nonneg x (by decide)]
theorem X8 {α S:Type} (f:S→α→S):∀ (l:List α) (s:S),VD (fun s x=>(.inl (f s x):S⊕S)) (fun s=>s) l s=l.foldl f s
 | [],s=>rfl
 | x::l,s=>X8 f l (f s x)
theorem or8 {s b:Int} (h0:0≤s) (h1:s < 1099511627776) (hb:0≤b∧b < 256):IntKind.wrap .i64 (((BitVec.ofInt 64 (IntKind.wrap .i64 (s * 2 ^ 8)) ||| BitVec.ofInt 64 (IntKind.wrap .i64 b)).toNat:Nat):Int)=s * 256+b:=by
 rw [show s * (2:Int) ^ 8=s * 256 by rw [show (2:Int) ^ 8=256 by decide],wi64 (x:=s * 256) (by omega),wi64 (x:=b) (by omega)]
 obtain ⟨a,rfl⟩:∃ a:Nat,s=a:=⟨s.toNat,by omega⟩
 obtain ⟨c,rfl⟩:∃ c:Nat,b=c:=⟨b.toNat,by omega⟩
 have e1:(BitVec.ofInt 64 ((a:Int) * 256)).toNat=a * 256:=by rw [BitVec.toNat_ofInt];omega
 have e2:(BitVec.ofInt 64 (c:Int)).toNat=c:=by rw [BitVec.toNat_ofInt];omega
 have e3:a * 256 ||| c=a * 256+c:=by
  have:=Nat.shiftLeft_add_eq_or_of_lt (b:=c) (i:=8) (by omega) a
  rw [Nat.shiftLeft_eq,show (2:Nat) ^ 8=256 by decide] at this
  exact this.symm
 rw [BitVec.toNat_or,e1,e2,e3,wi64 (by omega)]
 omega
def numN (l:List Int):Int:=l.foldl (fun s b=>s * 256+b) 0
def Byt (l:List Int):Prop:=∀ b,b∈l→0≤b∧b < 256
theorem QcE:∀ i:Nat,i≤4→(256:Int) ^ i≤4294967296
 | 0,_=>by decide
 | 1,_=>by decide
 | 2,_=>by decide
 | 3,_=>by decide
 | 4,_=>by decide
 | i+5,h=>by omega
theorem UH {n:Nat} (hn:100≤n) {l:List Int} (hl:l.length≤4) (hb:Byt l):QQ n (l.map u8)=some (numN l):=by
 unfold QQ
 have h:=ZI (step:=ZF n (l.map u8)) (fun (s:Int) (b:Int)=>(.inl (s * 256+b):Int⊕Int)) (fun s=>s) (fun i s=>(s,(i:Int))) l (fun i s=>0≤s∧s < 256 ^ i)
  (fun i s x hx hs=>by
   have hi:=(List.getElem?_eq_some_iff.1 hx).1
   have hx2:=hb x (List.mem_of_getElem? hx)
   have hp:=QcE i (by omega)
   unfold ZF
   dsimp only
   rw [if_pos (VA hx),V1 Qcn hx,Option.bind_some,if_pos (by unfold Qa;omega),or8 hs.1 (by omega) hx2]
   refine ⟨rfl,by omega,?_⟩
   rw [Int.pow_succ];omega)
  (fun s _=>by unfold ZF;rw [if_neg (by simp)]) (k:=n) (s:=0) ⟨by omega,by decide⟩ (by omega)
 have h' : QS (ZF n (l.map u8)) n (0,0)=_:=h
 rw [h',X8,Option.bind_some]
 rfl
def cks (l:List Int):Int:=l.foldl (fun x b=>(277 * x+b) % 16777199) 1
theorem wJ:∀ (l:List Int) (x:Int),0≤x∧x < 16777199→0≤l.foldl (fun x b=>(277 * x+b) % 16777199) x∧l.foldl (fun x b=>(277 * x+b) % 16777199) x < 16777199
 | [],x,h=>h
 | b::l,x,h=>wJ l ((277 * x+b) % 16777199) ⟨by omega,by omega⟩
theorem qh {n:Nat} (hn:100≤n) {l:List Int} (hl:l.length≤90) (hb:Byt l):ZB n (l.map u8)=some (cks l):=by
 unfold ZB
 have h:=ZI (step:=Zl n (l.map u8)) (fun (s:Int) (b:Int)=>(.inl ((277 * s+b) % 16777199):Int⊕Int)) (fun s=>s) (fun i s=>(s,(i:Int))) l (fun i s=>0≤s∧s < 16777199)
  (fun i s x hx hs=>by
   have hi:=(List.getElem?_eq_some_iff.1 hx).1
   have hx2:=hb x (List.mem_of_getElem? hx)
   unfold Zl
   dsimp only
   rw [if_pos (VA hx),V1 Qcn hx,Option.bind_some,if_pos (by unfold Qa;omega),wi64 (x:=x) (by omega),if_pos (by unfold Qa;omega),if_pos (by unfold Qa;omega),Int.tmod_eq_emod_of_nonneg (by omega)]
   exact ⟨rfl,by omega,by omega⟩)
  (fun s _=>by unfold Zl;rw [if_neg (by simp)]) (k:=n) (s:=1) ⟨by omega,by omega⟩ (by omega)
 have h' : QS (Zl n (l.map u8)) n (1,0)=_:=h
 rw [h',X8,Option.bind_some]
 rfl
structure Tel where
 st:Int
 j:Int
 x:Int
 y:Int
 z:Int
structure TelOk (t:Tel):Prop where
 st:0≤t.st∧t.st≤255
 j:0≤t.j∧t.j≤65535
 x : -1048576≤t.x∧t.x≤1048576
 y : -1048576≤t.y∧t.y≤1048576
 z : -1048576≤t.z∧t.z≤1048576
def YI (t:Tel):D:=.agg [I t.st,I t.j,I 1,I t.x,I t.y,I t.z]
def b3 (n:Int):Int:=n / 16777216 % 256
def b2 (n:Int):Int:=n / 65536 % 256
def b1 (n:Int):Int:=n / 256 % 256
def b0_ (n:Int):Int:=n % 256
def h20 (t:Tel):List Int:=[77,b0_ t.st,b1 t.j,b0_ t.j,b0_ 1,b3 (t.x+1048576),b2 (t.x+1048576),b1 (t.x+1048576),b0_ (t.x+1048576),b3 (t.y+1048576),b2 (t.y+1048576),b1 (t.y+1048576),b0_ (t.y+1048576),
 b3 (t.z+1048576),b2 (t.z+1048576),b1 (t.z+1048576),b0_ (t.z+1048576),(255 - b0_ t.st) % 256,(255 - b1 t.j) % 256,(255 - b0_ t.j) % 256]
def ck (t:Tel):Int:=cks (h20 t)
def t4 (t:Tel):List Int:=[b3 (ck t),b2 (ck t),b1 (ck t),b0_ (ck t)]
def frm (t:Tel):List Int:=h20 t++t4 t
theorem Gz (n:Int):(0≤b3 n∧b3 n < 256)∧(0≤b2 n∧b2 n < 256)∧(0≤b1 n∧b1 n < 256)∧0≤b0_ n∧b0_ n < 256:=by
 unfold b3 b2 b1 b0_;omega
theorem uK (t:Tel):Byt (h20 t):=by
 intro b hb
 have h1:=Gz t.st
 have h2:=Gz t.j
 have h3:=Gz (t.x+1048576)
 have h4:=Gz (t.y+1048576)
 have h5:=Gz (t.z+1048576)
 have h6:=Gz 1
 unfold h20 at hb
 simp only [List.mem_cons,List.not_mem_nil,or_false] at hb
 rcases hb with rfl | rfl | rfl | rfl | rfl | rfl | rfl | rfl | rfl | rfl | rfl | rfl | rfl | rfl | rfl | rfl | rfl | rfl | rfl | rfl <;> omega
theorem QbH (t:Tel):0≤ck t∧ck t < 16777199:=wJ _ 1 ⟨by omega,by omega⟩
theorem num4 (n:Int) (h:0≤n∧n < 4294967296):numN [b3 n,b2 n,b1 n,b0_ n]=n:=by
 show (((0 * 256+b3 n) * 256+b2 n) * 256+b1 n) * 256+b0_ n=n
 unfold b3 b2 b1 b0_;omega
theorem num2 (n:Int) (h:0≤n∧n < 65536):numN [b1 n,b0_ n]=n:=by
 show (0 * 256+b1 n) * 256+b0_ n=n
 unfold b1 b0_;omega
theorem num1 (n:Int) (h:0≤n∧n < 256):numN [b0_ n]=n:=by
 show 0 * 256+b0_ n=n
 unfold b0_;omega
theorem byt4 (n:Int):Byt [b3 n,b2 n,b1 n,b0_ n]:=by
 intro b hb
 have h:=Gz n
 simp only [List.mem_cons,List.not_mem_nil,or_false] at hb
 rcases hb with rfl | rfl | rfl | rfl <;> omega
theorem Ek {x lo hi:Int} (h:lo≤x∧x≤hi):inR x lo hi=0:=by
 unfold inR;rw [if_neg (by omega),if_neg (by omega)]
theorem Ub {n:Nat} (hn:100≤n) (k:Nat) (hk:k≤90):QJ n ((List.replicate k (0:Int)).map I)=some 0:=by
 rw [UI hn _ (by rw [List.length_replicate];exact hk)]
 congr 1
 clear hk
 induction k with
 | zero=>rfl
 | succ k ih =>
  rw [List.replicate_succ]
  show (if (0:Int)=0 then Z2 (List.replicate k 0) else 0)=0
  rw [if_pos rfl];exact ih
theorem wc {n:Nat} (hn:100≤n) {x y z:Int} (hx : -1048576≤x∧x≤1048576) (hy : -1048576≤y∧y≤1048576) (hz : -1048576≤z∧z≤1048576):QM n x y z=some 0:=by
 unfold QM
 rw [W5,Option.bind_some,W5,Option.bind_some,W5,Option.bind_some,Ek hx,Ek hy,Ek hz,show ([I 0,I 0,I 0]:List D)=(List.replicate 3 (0:Int)).map I from rfl,Ub hn 3 (by omega),Option.bind_some]
theorem E0 {n:Nat} (hn:100≤n) {t:Tel} (h:TelOk t):Zu n t.st t.j 1 t.x t.y t.z=some 0:=by
 unfold Zu
 rw [W5,Option.bind_some,W5,Option.bind_some,W5,Option.bind_some,wc hn h.x h.y h.z,Option.bind_some,Ek h.st,Ek h.j,Ek (by omega),show ([I 0,I 0,I 0,I 0]:List D)=(List.replicate 4 (0:Int)).map I from rfl,Ub hn 4 (by omega),Option.bind_some]
theorem wE {n:Nat} (hn:100≤n) {t:Tel} (h:TelOk t):ZU n t.st t.j 1 t.x t.y t.z=some (77,b0_ t.st,b1 t.j,b0_ t.j,b0_ 1,b3 (t.x+1048576),b2 (t.x+1048576),b1 (t.x+1048576),b0_ (t.x+1048576),b3 (t.y+1048576),b2 (t.y+1048576),b1 (t.y+1048576),b0_ (t.y+1048576),
  b3 (t.z+1048576),b2 (t.z+1048576),b1 (t.z+1048576),b0_ (t.z+1048576),(255 - b0_ t.st) % 256,(255 - b1 t.j) % 256,(255 - b0_ t.j) % 256,b3 (ck t),b2 (ck t),b1 (ck t),b0_ (ck t),0):=by
 have hx:=h.x
 have hy:=h.y
 have hz:=h.z
 unfold ZU
 rw [E0 hn h,Option.bind_some,if_pos rfl,if_pos (by unfold Qa;omega),if_pos (by unfold Qa;omega),if_pos (by unfold Qa;omega)]
 simp only [wu8,fd0,fd8,fd16,fd24]
 have hc:ZB n ((h20 t).map u8)=some (ck t):=qh hn (by unfold h20;simp) (uK t)
 have hc' : ∀ k:Int→Option (Int×Int×Int×Int×Int×Int×Int×Int×Int×Int×Int×Int×Int×Int×Int×Int×Int×Int×Int×Int×Int×Int×Int×Int×Int),(ZB n ((h20 t).map u8)).bind k=k (ck t):=fun k=>by rw [hc,Option.bind_some]
 exact hc' _
theorem Qa0 {n:Nat} (hn:100≤n) (t:Tel):Z7 n ((frm t).map u8)=some true:=by
 have hlen:((frm t).map u8).length=24:=by simp [frm,h20,t4]
 unfold Z7
 rw [hlen,if_pos (by unfold Qa;omega),if_pos (by omega),if_pos ⟨by omega,by omega,by omega,.inr rfl⟩]
 have e1:((frm t).map u8).drop (Int.toNat (((24:Nat):Int) - 4))=(t4 t).map u8:=rfl
 have e2:(((frm t).map u8).take (Int.toNat (((24:Nat):Int) - 4))).drop (Int.toNat 0)=(h20 t).map u8:=rfl
 have hk:=QbH t
 rw [e1,UH hn (l:=t4 t) (by simp [t4]) (byt4 (ck t)),Option.bind_some,if_pos ⟨by omega,by omega,by omega,.inr rfl⟩,e2,qh hn (by simp [h20]) (uK t),Option.bind_some]
 have e3:numN (t4 t)=ck t:=num4 (ck t) (by omega)
 rw [e3]
 congr 1
 exact beq_self_eq_true _
theorem Qax {n:Nat} (hn:100≤n) {t:Tel} (h:TelOk t):WC n 77 (b0_ t.st) (b1 t.j) (b0_ t.j) (b0_ 1) (b3 (t.x+1048576)) (b2 (t.x+1048576)) (b1 (t.x+1048576)) (b0_ (t.x+1048576)) (b3 (t.y+1048576)) (b2 (t.y+1048576)) (b1 (t.y+1048576)) (b0_ (t.y+1048576))
  (b3 (t.z+1048576)) (b2 (t.z+1048576)) (b1 (t.z+1048576)) (b0_ (t.z+1048576)) ((255 - b0_ t.st) % 256) ((255 - b1 t.j) % 256) ((255 - b0_ t.j) % 256) (b3 (ck t)) (b2 (ck t)) (b1 (ck t)) (b0_ (ck t))=some (t.st,t.j,1,t.x,t.y,t.z,0):=by
 have hst:=h.st
 have hj:=h.j
 have hx:=h.x
 have hy:=h.y
 have hz:=h.z
 have n1:QQ n [.v (.int .u8 (b0_ t.st))]=some t.st:=by
  have:=UH hn (l:=[b0_ t.st]) (by simp) (by intro b hb;have q:=Gz t.st;simp only [List.mem_cons,List.not_mem_nil,or_false] at hb;subst hb;exact q.2.2.2)
  rw [num1 _ (by omega)] at this;exact this
 have n2:QQ n [.v (.int .u8 (b1 t.j)),.v (.int .u8 (b0_ t.j))]=some t.j:=by
  have:=UH hn (l:=[b1 t.j,b0_ t.j]) (by simp) (by intro b hb;have q:=Gz t.j;simp only [List.mem_cons,List.not_mem_nil,or_false] at hb;rcases hb with rfl | rfl <;> omega)
  rw [num2 _ (by omega)] at this;exact this
 have n3:QQ n [.v (.int .u8 (b0_ 1))]=some 1:=by
  have:=UH hn (l:=[b0_ 1]) (by simp) (by intro b hb;have q:=Gz 1;simp only [List.mem_cons,List.not_mem_nil,or_false] at hb;subst hb;exact q.2.2.2)
  rw [num1 _ (by omega)] at this;exact this
 have n4:∀ v:Int,0≤v∧v < 4294967296→QQ n [.v (.int .u8 (b3 v)),.v (.int .u8 (b2 v)),.v (.int .u8 (b1 v)),.v (.int .u8 (b0_ v))]=some v:=fun v hv=>by
  have:=UH hn (l:=[b3 v,b2 v,b1 v,b0_ v]) (by simp) (byt4 v)
  rw [num4 _ hv] at this;exact this
 have hr:Z7 n [.v (.int .u8 77),.v (.int .u8 (b0_ t.st)),.v (.int .u8 (b1 t.j)),.v (.int .u8 (b0_ t.j)),.v (.int .u8 (b0_ 1)),.v (.int .u8 (b3 (t.x+1048576))),.v (.int .u8 (b2 (t.x+1048576))),.v (.int .u8 (b1 (t.x+1048576))),.v (.int .u8 (b0_ (t.x+1048576))),.v (.int .u8 (b3 (t.y+1048576))),.v (.int .u8 (b2 (t.y+1048576))),.v (.int .u8 (b1 (t.y+1048576))),.v (.int .u8 (b0_ (t.y+1048576))),
  .v (.int .u8 (b3 (t.z+1048576))),.v (.int .u8 (b2 (t.z+1048576))),.v (.int .u8 (b1 (t.z+1048576))),.v (.int .u8 (b0_ (t.z+1048576))),.v (.int .u8 ((255 - b0_ t.st) % 256)),.v (.int .u8 ((255 - b1 t.j) % 256)),.v (.int .u8 ((255 - b0_ t.j) % 256)),.v (.int .u8 (b3 (ck t))),.v (.int .u8 (b2 (ck t))),.v (.int .u8 (b1 (ck t))),.v (.int .u8 (b0_ (ck t)))]=some true:=Qa0 hn t
 unfold WC
 rw [n1,Option.bind_some,n2,Option.bind_some,n3,Option.bind_some,n4 _ (by omega),Option.bind_some,if_pos (by unfold Qa;omega),n4 _ (by omega),Option.bind_some,if_pos (by unfold Qa;omega),n4 _ (by omega),Option.bind_some,if_pos (by unfold Qa;omega),
  if_pos (wu8 _).symm,if_pos (wu8 _).symm,hr]
 have e1:((77:Int) != 77)=false:=by decide
 have e2:(!((255 - b0_ t.j) % 256 == IntKind.wrap .u8 (255 - b0_ t.j)))=false:=by rw [wu8,beq_self_eq_true];rfl
 have e3:∀ v:Int,v+1048576 - 1048576=v:=fun v=>by omega
 rw [e1,Xj,Option.bind_some,Option.bind_some,if_pos rfl,e2,Xj,Option.bind_some,e3,e3,e3,wc hn hx hy hz,Option.bind_some,if_neg (by decide),if_neg (by decide),show ([I 0,I 0,I 0]:List D)=(List.replicate 3 (0:Int)).map I from rfl,Ub hn 3 (by omega),Option.bind_some,if_pos rfl]
theorem yn (x:Nat):YB (QH x)=some x:=rfl
theorem JG {α:Type} {L:Int×List D→Option ((Int×List D)⊕List D)} (l:List α) (out:α→D) (h1:∀ (i:Nat) (x:α) (s:List D),l[i]?=some x→s.length=i→L ((i:Int),s)=some (.inl ((i:Int)+1,s++[out x])))
  (h2:∀ s:List D,s.length=l.length→L ((l.length:Int),s)=some (.inr s)) {n:Nat} (hn:l.length < n):QS L n (0,[])=some (l.map out):=by
 have h:=ZI (step:=L) (fun (s:List D) (x:α)=>(.inl (s++[out x]):List D⊕List D)) (fun s=>s) (fun i s=>((i:Int),s)) l (fun i s=>s.length=i)
  (fun i s x hx hs=>⟨(h1 i x s hx hs).trans (by rw [show (((i+1:Nat)):Int)=(i:Int)+1 by omega]),by rw [List.length_append,hs];rfl⟩)
  (fun s hs=>h2 s hs) (k:=n) (s:=[]) rfl hn
 have hr:∀ (l:List α) (s:List D),VD (fun (s:List D) (x:α)=>(.inl (s++[out x]):List D⊕List D)) (fun s=>s) l s=s++l.map out:=by
  intro l
  induction l with
  | nil=>intro s;simp [VD]
  | cons t l ih=>intro s;show VD _ _ l (s++[out t])=_;rw [ih];simp
 rw [hr,List.nil_append] at h
 exact h
theorem zA {α E:Type} {L:Int→Option (Int⊕(E⊕Unit))} (l:List α) (h1:∀ (i:Nat) (x:α),l[i]?=some x→L (i:Int)=some (.inl ((i:Int)+1))) (h2:L (l.length:Int)=some (.inr (.inr ()))) {n:Nat} (hn:l.length < n):QS L n 0=some (.inr ()):=by
 have h:=ZI (step:=L) (fun (s:Nat) (x:α)=>(.inl (s+1):Nat⊕(E⊕Unit))) (fun _=>.inr ()) (fun i _=>(i:Int)) l (fun i s=>True)
  (fun i s x hx _=>⟨(h1 i x hx).trans (by rw [show (((i+1:Nat)):Int)=(i:Int)+1 by omega]),trivial⟩) (fun s _=>h2) (k:=n) (s:=0) trivial hn
 have hr:∀ (l:List α) (s:Nat),VD (fun (s:Nat) (x:α)=>(.inl (s+1):Nat⊕(E⊕Unit))) (fun _=>(.inr ():E⊕Unit)) l s=.inr ():=by
  intro l
  induction l with
  | nil=>intro s;rfl
  | cons t l ih=>intro s;exact ih (s+1)
 rw [hr] at h
 exact h
theorem QaT {α:Type} {L:Int×Int→Option ((Int×Int)⊕Int)} (l:List α) (f:α→Int) (hf:∀ x,x∈l→-16384≤f x∧f x≤16384) (hl:l.length≤1000)
  (h1:∀ (i:Nat) (x:α) (s:Int),l[i]?=some x→-20000000≤s∧s≤20000000→L (s,(i:Int))=some (.inl (s+f x,(i:Int)+1)))
  (h2:∀ s:Int,L (s,(l.length:Int))=some (.inr s)) {n:Nat} (hn:l.length < n):QS L n (0,0)=some ((l.map f).sum):=by
 have h:=ZI (step:=L) (fun (s:Int) (x:α)=>(.inl (s+f x):Int⊕Int)) (fun s=>s) (fun i s=>(s,(i:Int))) l (fun i s=>-16384 * (i:Int)≤s∧s≤16384 * (i:Int))
  (fun i s x hx hs=>by
   have hi:=(List.getElem?_eq_some_iff.1 hx).1
   have hb:=hf x (List.mem_of_getElem? hx)
   exact ⟨(h1 i x s hx (by omega)).trans (by rw [show (((i+1:Nat)):Int)=(i:Int)+1 by omega]),by omega,by omega⟩)
  (fun s hs=>h2 s) (k:=n) (s:=0) ⟨by omega,by omega⟩ hn
 have hr:∀ (l:List α) (s:Int),VD (fun (s:Int) (x:α)=>(.inl (s+f x):Int⊕Int)) (fun s=>s) l s=s+(l.map f).sum:=by
  intro l
  induction l with
  | nil=>intro s;simp [VD]
  | cons t l ih=>intro s;show VD _ _ l (s+f t)=_;rw [ih];simp;omega
 rw [hr,Int.zero_add] at h
 exact h
structure MapOk (W H:Int) (bs:List Nat):Prop where
 w:1≤W∧W≤64
 h:1≤H∧H≤64
 len:(bs.length:Int)=W * H
 few:bs.length≤90
 chk:∀ b,b∈bs→chk b=0
theorem jv {x lo hi:Int} (h:lo≤x∧x≤hi):inR x lo hi=0:=by
 unfold inR;rw [if_neg (by omega),if_neg (by omega)]
theorem jS (bs:List Nat):Z2 (bs.map fun _=>(0:Int))=0:=by
 induction bs with
 | nil=>rfl
 | cons b l ih =>
  show (if (0:Int)=0 then Z2 (l.map fun _=>(0:Int)) else 0)=0
  rw [if_pos rfl];exact ih
theorem uL {W H:Int} (hw:1≤W∧W≤64) (hh:1≤H∧H≤64):Qa (W * H):=by
 have h1:0≤W * H:=Int.mul_nonneg (by omega) (by omega)
 have h2:W * H≤64 * 64:=Int.mul_le_mul hw.2 hh.2 (by omega) (by omega)
 unfold Qa;omega
theorem JN {n:Nat} (hn:100≤n) {W H:Int} {bs:List Nat} (h:MapOk W H bs):ZL n W H (bs.map QH)=some 0:=by
 unfold ZL
 rw [W5,Option.bind_some,W5,Option.bind_some,jv h.w,jv h.h,show ([I 0,I 0]:List D)=[0,0].map I from rfl,UI hn _ (by simp),Option.bind_some,if_pos (by rfl),if_pos (uL h.w h.h),if_pos (by rw [List.length_map];exact h.len)]
 unfold WL
 rw [JG (L:=Zs n (bs.map QH)) bs (fun _=>I 0) ?_ ?_ (by have:=h.few;omega),Option.bind_some,Option.bind_some,show (bs.map fun _=>I 0)=(bs.map fun _=>(0:Int)).map I by rw [List.map_map];rfl,UI hn _ (by rw [List.length_map];exact h.few),jS,Option.bind_some]
 ·intro i x s hx hs
  have hi:=(List.getElem?_eq_some_iff.1 hx).1
  have:=h.few
  unfold Zs
  dsimp only
  rw [if_pos (VA hx),V1 yn hx,Option.bind_some,QbI hn (h.chk x (List.mem_of_getElem? hx)),Option.bind_some,if_pos (by unfold Q5;omega),if_pos (by unfold Qa;omega)]
 ·intro s hs
  unfold Zs
  rw [if_neg (by simp)]
def ZV (b:Nat):D:=I (lev b)
theorem Eg {n:Nat} (hn:100≤n) {W H:Int} {bs:List Nat} (h:MapOk W H bs):Zx n W H (bs.map QH)=some (W,H,bs.map ZV):=by
 unfold Zx WK
 rw [JG (L:=Zr n (bs.map QH)) bs ZV ?_ ?_ (by have:=h.few;omega),Option.bind_some,Option.bind_some]
 ·intro i x s hx hs
  have hi:=(List.getElem?_eq_some_iff.1 hx).1
  have:=h.few
  unfold Zr
  dsimp only
  rw [if_pos (VA hx),V1 yn hx,Option.bind_some,Qbi (h.chk x (List.mem_of_getElem? hx)),Option.bind_some,if_pos (by unfold Q5;omega),if_pos (by unfold Qa;omega)]
  rfl
 ·intro s hs
  unfold Zr
  rw [if_neg (by simp)]
theorem qv {α:Type} {f:α→D} {l:List α} {i:Nat} {x:α} (h:l[i]?=some x):nth (l.map f) (Int.toNat (i:Int))=some (f x):=by
 rw [Int.toNat_natCast,Yj,List.getElem?_map,h];rfl
theorem qE {n:Nat} (hn:100≤n) {W H:Int} {bs:List Nat} (h:MapOk W H bs):QT n W H (bs.map QH)=some ((bs.map lev).sum,0):=by
 unfold QT
 rw [JN hn h,Option.bind_some,if_pos rfl,Eg hn h,Option.bind_some]
 have hf:=h.few
 rw [QaT (L:=Wa n (W,H,bs.map ZV)) bs lev (fun x hx=>Vz (h.chk x hx)) (by omega) ?_ ?_ (by omega),Option.bind_some]
 ·intro i x s hx hs
  have hi:=(List.getElem?_eq_some_iff.1 hx).1
  have hb:=Vz (h.chk x (List.mem_of_getElem? hx))
  unfold Wa
  dsimp only
  rw [if_pos (VA hx),if_pos ⟨by omega,VA hx⟩,qv hx]
  change ((some (lev x)).bind _)=_
  rw [Option.bind_some,if_pos (by unfold Qa;omega),if_pos (by unfold Qa;omega)]
 ·intro s
  unfold Wa
  rw [if_neg (by simp)]
theorem Qb7 {n:Nat} (hn:100≤n) (W H:Int) {ks:List Int} (hl:ks.length≤90) (hk:∀ k,k∈ks→-16384≤k∧k≤16384):Wr n W H (ks.map I)=some (W,H,(ks.map smp).map QH,0):=by
 unfold Wr
 rw [zA (L:=ZA n W H (ks.map I)) ks ?_ ?_ (by omega),Option.bind_some]
 ·dsimp only
  unfold WJ
  rw [JG (L:=Zq n (ks.map I)) ks (fun k=>QH (smp k)) ?_ ?_ (by omega),Option.bind_some,Option.bind_some,List.map_map]
  ·rfl
  ·intro i x s hx hs
   have hi:=(List.getElem?_eq_some_iff.1 hx).1
   unfold Zq
   dsimp only
   rw [if_pos (VA hx),V1 wX hx,Option.bind_some,(X7 (hk x (List.mem_of_getElem? hx))).2.2.1 n,Option.bind_some,if_pos (by unfold Q5;omega),if_pos (by unfold Qa;omega)]
   rfl
  ·intro s hs
   unfold Zq
   rw [if_neg (by simp)]
 ·intro i x hx
  have hi:=(List.getElem?_eq_some_iff.1 hx).1
  have hb:=hk x (List.mem_of_getElem? hx)
  unfold ZA
  rw [if_pos (VA hx),V1 wX hx,Option.bind_some,if_neg (by omega),if_neg (by omega),if_pos (by unfold Qa;omega)]
 ·unfold ZA
  rw [if_neg (by simp)]
def zD (bs cs:List Nat):List Int:=(bs.zip cs).map fun p=>lev p.1+lev p.2
theorem uv {α:Type}:∀ (a:List α) (x y:α) (b:List α),(a++x::b).set a.length y=a++y::b
 | [],x,y,b=>rfl
 | z::a,x,y,b=>by simp [uv a x y b]
theorem ui {n:Nat} {W H V G:Int} {bs cs:List Nat} (hlen:cs.length=bs.length) (hl:bs.length≤90) (hb:∀ b,b∈bs→chk b=0) (hc:∀ c,c∈cs→chk c=0) (hn:100≤n) :
  QS (ZC n (W,H,bs.map ZV) (V,G,cs.map ZV)) n (0,bs.map ZV)=some ((zD bs cs).map I):=by
 have hz:(bs.zip cs).length=bs.length:=by rw [List.length_zip,hlen,Nat.min_self]
 have h:=ZI (step:=ZC n (W,H,bs.map ZV) (V,G,cs.map ZV)) (fun (s:List D) (p:Nat×Nat)=>(.inl (s++[I (lev p.1+lev p.2)]):List D⊕List D)) (fun s=>s) (fun i s=>((i:Int),s++(bs.map ZV).drop i)) (bs.zip cs) (fun i s=>s.length=i)
  (fun i s p hp hs=>by
   have hi:=(List.getElem?_eq_some_iff.1 hp).1
   rw [hz] at hi
   obtain ⟨h1,h2⟩:=List.getElem?_zip_eq_some.1 hp
   have hx:=Vz (hb p.1 (List.mem_of_getElem? h1))
   have hy:=Vz (hc p.2 (List.mem_of_getElem? h2))
   have hd:(bs.map ZV).drop i=ZV p.1::(bs.map ZV).drop (i+1):=by
    have hi' : i < (bs.map ZV).length:=by rw [List.length_map];exact hi
    rw [List.drop_eq_getElem_cons hi']
    congr 1
    have:(bs.map ZV)[i]?=some (ZV p.1):=by rw [List.getElem?_map,h1];rfl
    rw [List.getElem?_eq_getElem hi'] at this
    exact Option.some.inj this
   have hlen2:(s++(bs.map ZV).drop i).length=bs.length:=by rw [List.length_append,List.length_drop,List.length_map,hs];omega
   have hnth:nth (s++(bs.map ZV).drop i) (Int.toNat (i:Int))=some (ZV p.1):=by
    rw [Int.toNat_natCast,Yj,List.getElem?_append_right (by omega),hs,Nat.sub_self,hd];rfl
   unfold ZC
   dsimp only
   rw [hlen2,if_pos (by rw [List.length_map];omega),if_pos (by omega),hnth]
   change ((some (lev p.1)).bind _=_)∧_
   rw [Option.bind_some,if_pos ⟨by omega,VA h2⟩,qv h2]
   change ((some (lev p.2)).bind _=_)∧_
   rw [Option.bind_some,if_pos (by unfold Qa;omega),if_pos (by omega),if_pos (by unfold Qa;omega),Int.toNat_natCast,hd]
   refine ⟨?_,by rw [List.length_append,hs];rfl⟩
   have hset:=uv s (ZV p.1) (I (lev p.1+lev p.2)) ((bs.map ZV).drop (i+1))
   rw [hs] at hset
   rw [hset,List.append_assoc,List.singleton_append,show (((i+1:Nat)):Int)=(i:Int)+1 by omega])
  (fun s hs=>by
   unfold ZC
   dsimp only
   rw [hz,if_neg (by rw [List.length_map];omega),List.drop_eq_nil_of_le (by rw [List.length_map];omega),List.append_nil])
  (k:=n) (s:=[]) rfl (by omega)
 have hr:∀ (l:List (Nat×Nat)) (s:List D),VD (fun (s:List D) (p:Nat×Nat)=>(.inl (s++[I (lev p.1+lev p.2)]):List D⊕List D)) (fun s=>s) l s=s++l.map fun p=>I (lev p.1+lev p.2):=by
  intro l
  induction l with
  | nil=>intro s;simp [VD]
  | cons t l ih=>intro s;show VD _ _ l (s++[I (lev t.1+lev t.2)])=_;rw [ih];simp
 rw [hr,List.nil_append] at h
 have h' : QS (ZC n (W,H,bs.map ZV) (V,G,cs.map ZV)) n (0,bs.map ZV)=_:=h
 rw [h']
 unfold zD
 rw [List.map_map]
 rfl
theorem QbO {n:Nat} (hn:100≤n) {W H:Int} {bs cs:List Nat} (h:MapOk W H bs) (h2:MapOk W H cs) (hk:∀ k,k∈zD bs cs→-16384≤k∧k≤16384):Z8 n W H (bs.map QH) W H (cs.map QH)=some (W,H,((zD bs cs).map smp).map QH,0):=by
 have hf:=h.few
 have hlen:cs.length=bs.length:=by
  have:=h.len
  have:=h2.len
  omega
 unfold Z8
 rw [JN hn h,Option.bind_some,JN hn h2,Option.bind_some,show ([I 0,I 0]:List D)=[0,0].map I from rfl,UI hn _ (by simp),Option.bind_some,if_pos (by rfl),if_pos (by simp),Eg hn h,Option.bind_some,Eg hn h2,Option.bind_some]
 dsimp only
 rw [ui hlen hf h.chk h2.chk hn,Option.bind_some,Qb7 hn W H (by unfold zD;rw [List.length_map,List.length_zip];omega) hk,Option.bind_some]
theorem kg {n:Nat} (hn:2000≤n) {ks:List Int} (hl:ks.length≤1000):Zh n (ks.map I) (ks.map I)=some true:=by
 unfold Zh
 rw [if_pos rfl,zA (L:=ZG n (ks.map I) (ks.map I)) ks ?_ ?_ (by omega)]
 ·rfl
 ·intro i x hx
  have hi:=(List.getElem?_eq_some_iff.1 hx).1
  unfold ZG
  rw [if_pos (VA hx),V1 wX hx,Option.bind_some,Option.bind_some,if_pos rfl,if_pos (by unfold Qa;omega)]
 ·unfold ZG
  rw [if_neg (by simp)]
theorem yw {n:Nat} (hn:100≤n) (W H:Int) {ps bs:List Nat} (hl:ps.length=bs.length) (hf:bs.length≤90) (he:∀ (i:Nat) (a b:Nat),ps[i]?=some a→bs[i]?=some b→Ieee.single.order a b=some .eq) :
  Zw n W H (ps.map QH) W H (bs.map QH)=some true:=by
 unfold Zw Ve
 rw [if_pos rfl,Option.bind_some,if_pos (by simp)]
 unfold Wt
 rw [if_pos (by rw [List.length_map,List.length_map,hl]),zA (L:=Zg n (ps.map QH) (bs.map QH)) ps ?_ ?_ (by omega)]
 ·rfl
 ·intro i x hx
  have hi:=(List.getElem?_eq_some_iff.1 hx).1
  have hy:bs[i]?=some bs[i]:=List.getElem?_eq_getElem (by omega)
  unfold Zg
  rw [if_pos (VA hx),V1 yn hx,Option.bind_some,V1 yn hy,Option.bind_some]
  change (if (Ieee.single.order x bs[i] != some .eq)=true then _ else _)=_
  rw [he i x _ hx hy,if_neg (by decide),if_pos (by unfold Qa;omega)]
 ·unfold Zg
  rw [if_neg (by simp)]
def frD (t:Tel):List D:=(frm t).map u8
def VQ (ts:List Tel):List D:=(ts.map frD).flatten
theorem WH (t:Tel):(frD t).length=24:=by simp [frD,frm,h20,t4]
theorem Jw (a b:List Tel):VQ (a++b)=VQ a++VQ b:=by simp [VQ]
theorem qI (t:Tel):VQ [t]=frD t:=by simp [VQ]
theorem WW:∀ ts:List Tel,(VQ ts).length=24 * ts.length
 | []=>rfl
 | t::ts=>by
  have:=WW ts
  show (frD t++VQ ts).length=_
  rw [List.length_append,WH,this,List.length_cons];omega
theorem qH:∀ (ts:List Tel) (i:Nat) (t:Tel),ts[i]?=some t→(((VQ ts).take (24 * i+24)).drop (24 * i)).take 24=frD t
 | [],i,t,h=>by simp at h
 | a::ts,0,t,h=>by
  simp only [List.getElem?_cons_zero,Option.some.injEq] at h
  subst h
  show (((frD a++VQ ts).take 24).drop 0).take 24=frD a
  rw [List.drop_zero,List.take_take,List.take_append_of_le_length (by rw [WH];omega),List.take_of_length_le (by rw [WH];omega)]
 | a::ts,i+1,t,h=>by
  have ih:=qH ts i t (by simpa using h)
  show (((frD a++VQ ts).take (24 * (i+1)+24)).drop (24 * (i+1))).take 24=frD t
  have e1:(frD a++VQ ts).take (24 * (i+1)+24)=frD a++(VQ ts).take (24 * i+24):=by
   rw [List.take_append,List.take_of_length_le (by rw [WH];omega),WH]
   congr 2
  have e2:(frD a++(VQ ts).take (24 * i+24)).drop (24 * (i+1))=((VQ ts).take (24 * i+24)).drop (24 * i):=by
   rw [List.drop_append,List.drop_eq_nil_of_le (by rw [WH];omega),WH,List.nil_append]
   congr 1
  rw [e1,e2,ih]
theorem Qa2 {n:Nat} (hn:100≤n) {ts:List Tel} {i:Nat} {t:Tel} (ht:ts[i]?=some t) (hok:TelOk t) (hl:ts.length≤100) {o:List D} (ho:o.length=i) :
  QX n (VQ ts) (((24 * i:Nat):Int),o,[])=some (.inl (((24 * (i+1):Nat):Int),o++[YI t],[])):=by
 have hi:=(List.getElem?_eq_some_iff.1 ht).1
 have hlen:=WW ts
 unfold QX
 dsimp only
 rw [hlen,if_pos (by omega),if_pos (by unfold Qa;omega),if_pos (by omega),if_pos (by unfold Qa;omega),if_pos ⟨by omega,by omega,by omega,.inr rfl⟩]
 have e1:Int.toNat (((24 * i:Nat):Int)+24)=24 * i+24:=by omega
 rw [e1,Int.toNat_natCast,qH ts i t ht]
 change ((WC n 77 (b0_ t.st) (b1 t.j) (b0_ t.j) (b0_ 1) (b3 (t.x+1048576)) (b2 (t.x+1048576)) (b1 (t.x+1048576)) (b0_ (t.x+1048576)) (b3 (t.y+1048576)) (b2 (t.y+1048576)) (b1 (t.y+1048576)) (b0_ (t.y+1048576))
  (b3 (t.z+1048576)) (b2 (t.z+1048576)) (b1 (t.z+1048576)) (b0_ (t.z+1048576)) ((255 - b0_ t.st) % 256) ((255 - b1 t.j) % 256) ((255 - b0_ t.j) % 256) (b3 (ck t)) (b2 (ck t)) (b1 (ck t)) (b0_ (ck t))).bind _)=_
 rw [Qax hn hok,Option.bind_some]
 dsimp only
 rw [if_pos rfl,if_pos (by unfold Q5;omega)]
 rw [show ((24 * (i+1):Nat):Int)=((24 * i:Nat):Int)+24 by omega]
 rfl
theorem kq {n:Nat} (hn:200≤n) (ts:List Tel) (hok:∀ t,t∈ts→TelOk t) (hl:ts.length≤100):Wh n (VQ ts)=some (ts.map YI,[],0):=by
 unfold Wh
 rw [if_neg (by rw [WW];omega)]
 have h:=ZI (step:=QX n (VQ ts)) (fun (s:List D) (t:Tel)=>(.inl (s++[YI t]):List D⊕(List D×List D))) (fun s=>(s,[])) (fun i s=>(((24 * i:Nat):Int),s,[])) ts (fun i s=>s.length=i)
  (fun i s t ht hs=>⟨Qa2 (by omega) ht (hok t (List.mem_of_getElem? ht)) hl hs,by rw [List.length_append];simp;omega⟩)
  (fun s _=>by unfold QX;rw [if_neg (by rw [WW];omega)]) (k:=n) (s:=[]) rfl (by omega)
 have h' : QS (QX n (VQ ts)) n (0,[],[])=_:=h
 have hr:∀ (l:List Tel) (s:List D),VD (fun (s:List D) (t:Tel)=>(.inl (s++[YI t]):List D⊕(List D×List D))) (fun s=>(s,[])) l s=(s++l.map YI,[]):=by
  intro l
  induction l with
  | nil=>intro s;simp [VD]
  | cons t l ih=>intro s;show VD _ _ l (s++[YI t])=_;rw [ih];simp
 rw [h',hr,Option.bind_some,List.nil_append]
def yf:List Nat→Int
 | []=>0
 | b::l=>if chk b=0 then yf l else chk b
theorem wL:∀ {bs:List Nat},yf bs=0→∀ b,b∈bs→chk b=0
 | [],_,b,h=>by cases h
 | a::l,h,b,hb=>by
  unfold yf at h
  by_cases h0:chk a=0
  ·rw [if_pos h0] at h
   rcases List.mem_cons.1 hb with rfl | hb
   ·exact h0
   ·exact wL h b hb
  ·rw [if_neg h0] at h;exact absurd h h0
def sG (s:Nat) (b:Nat):Nat⊕(Int⊕Unit):=if chk b=0 then .inl (s+1) else .inr (.inl (chk b))
theorem QaX:∀ (bs:List Nat) (s:Nat),VD sG (fun _=>(.inr ():Int⊕Unit)) bs s=(if yf bs=0 then .inr () else .inl (yf bs))
 | [],s=>rfl
 | b::l,s=>by
  unfold VD sG yf
  by_cases h:chk b=0
  ·rw [if_pos h,if_pos h];exact QaX l (s+1)
  ·rw [if_neg h,if_neg h,if_neg h]
theorem yu {n:Nat} (hn:100≤n) (bs:List Nat) (hb:bs.length≤90):ZT n (bs.map QH)=some (yf bs):=by
 unfold ZT
 have h:=ZI (step:=QZ n (bs.map QH)) sG (fun _=>(.inr ():Int⊕Unit)) (fun i _=>(i:Int)) bs (fun i s=>True)
  (fun i s x hx _=>by
   have hi:=(List.getElem?_eq_some_iff.1 hx).1
   unfold sG QZ
   rw [if_pos (VA hx),V1 yn hx,Option.bind_some,ref_eq,Option.bind_some]
   by_cases h0:chk x=0
   ·rw [if_pos h0,if_pos h0,if_pos (by unfold Qa;omega)]
    exact ⟨rfl,trivial⟩
   ·rw [if_neg h0,if_neg h0])
  (fun s _=>by unfold QZ;rw [if_neg (by simp)]) (k:=n) (s:=0) trivial (by omega)
 have h' : QS (QZ n (bs.map QH)) n 0=_:=h
 rw [h',QaX,Option.bind_some]
 by_cases h0:yf bs=0
 ·rw [if_pos h0,h0]
 ·rw [if_neg h0]
theorem kM {x lo hi:Int} (h:inR x lo hi=0):lo≤x∧x≤hi:=by
 unfold inR at h
 split at h
 ·cases h
 ·split at h
  ·cases h
  ·omega
theorem kR {a b:Int} (h:Z2 [a,b]=0):a=0∧b=0:=by
 unfold Z2 Z2 Z2 at h
 split at h
 ·rename_i h1
  split at h
  ·rename_i h2;exact ⟨h1,h2⟩
  ·rename_i h2;exact absurd h h2
 ·rename_i h1;exact absurd h h1
theorem Qab {n:Nat} (hn:100≤n) (W H:Int) (bs:List Nat) (hb:bs.length≤90):∃ e,Wz n W H (bs.map QH)=some e∧(e=0→MapOk W H bs):=by
 unfold Wz Wq
 rw [kw,Option.bind_some,Option.bind_some,kw,Option.bind_some,Option.bind_some,show ([I (inR W 1 64),I (inR H 1 64)]:List D)=[inR W 1 64,inR H 1 64].map I from rfl,Qaa hn _ (by simp),Option.bind_some]
 by_cases h0:Z2 [inR W 1 64,inR H 1 64]=0
 ·obtain ⟨h1,h2⟩:=kR h0
  have hw:=kM h1
  have hh:=kM h2
  rw [if_pos h0,if_pos (uL hw hh)]
  by_cases hl:((bs.map QH).length:Int)=W * H
  ·rw [if_pos hl,yu hn bs hb,Option.bind_some]
   refine ⟨_,rfl,fun h=>⟨hw,hh,by rw [List.length_map] at hl;exact hl,hb,wL h⟩⟩
  ·rw [if_neg hl]
   exact ⟨2,rfl,fun h=>by cases h⟩
 ·rw [if_neg h0]
  exact ⟨_,rfl,fun h=>absurd h h0⟩
def gG (s:Nat) (b:Nat):Nat⊕(Unit⊕Unit):=if ((FloatKind.format .f32).order b 1149239296 == some .gt)=true then .inr (.inl ()) else if ((FloatKind.format .f32).order b (Op.negFloat .f32 1149239296) == some .lt)=true then .inr (.inl ()) else .inl (s+1)
theorem QaU {n:Nat} (hn:100≤n) (W H:Int) (bs:List Nat):∃ b,Wx n W H (bs.map QH) 36 1149239296=some b∧(b=true→MapOk W H bs∧bs.length≤36):=by
 unfold Wx
 rw [List.length_map]
 by_cases h36:(bs.length:Int) > 36
 ·rw [if_pos h36]
  exact ⟨false,rfl,fun h=>by cases h⟩
 ·rw [if_neg h36]
  obtain ⟨e,h1,h2⟩:=Qab hn W H bs (by omega)
  rw [h1,Option.bind_some]
  by_cases h0:e=0
  ·rw [if_pos h0]
   have h:=ZI (step:=Zk n (bs.map QH) 1149239296) gG (fun _=>(.inr ():Unit⊕Unit)) (fun i _=>(i:Int)) bs (fun i s=>True)
    (fun i s x hx _=>by
     have hi:=(List.getElem?_eq_some_iff.1 hx).1
     unfold gG Zk
     rw [if_pos (VA hx),V1 yn hx,Option.bind_some]
     by_cases h0:((FloatKind.format .f32).order x 1149239296 == some .gt)=true
     ·rw [if_pos h0,if_pos h0]
     ·rw [if_neg h0,if_neg h0]
      by_cases h1:((FloatKind.format .f32).order x (Op.negFloat .f32 1149239296) == some .lt)=true
      ·rw [if_pos h1,if_pos h1]
      ·rw [if_neg h1,if_neg h1,if_pos (by unfold Qa;omega)]
       exact ⟨rfl,trivial⟩)
    (fun s _=>by unfold Zk;rw [if_neg (by simp)]) (k:=n) (s:=0) trivial (by omega)
   have h' : QS (Zk n (bs.map QH) 1149239296) n 0=_:=h
   rw [h',Option.bind_some]
   cases VD gG (fun _=>(.inr ():Unit⊕Unit)) bs 0 with
   | inl u=>exact ⟨false,rfl,fun h=>by cases h⟩
   | inr u=>exact ⟨true,rfl,fun _=>⟨h2 h0,by omega⟩⟩
  ·rw [if_neg h0]
   exact ⟨false,rfl,fun h=>by cases h⟩
theorem Qdb {n:Nat} (hn:100≤n) {W H:Int} {bs:List Nat} (hf:bs.length≤90) (hc:∀ b,b∈bs→chk b=0):QS (Q8 n W H (bs.map QH)) n (0,[])=some (bs.map ZV):=by
 refine JG (L:=Q8 n W H (bs.map QH)) bs ZV ?_ ?_ (by omega)
 ·intro i x s hx hs
  have hi:=(List.getElem?_eq_some_iff.1 hx).1
  unfold Q8
  dsimp only
  rw [if_pos (VA hx),V1 yn hx,Option.bind_some,zM (hc x (List.mem_of_getElem? hx)),Option.bind_some,if_pos (by unfold Q5;omega),if_pos (by unfold Qa;omega)]
  rfl
 ·intro s hs
  unfold Q8
  rw [if_neg (by simp)]
def mny (bs:List Nat):Nat:=(bs.length+2) / 3
theorem JF (bs:List Nat):Int.tdiv (((bs.map ZV).length:Int)+2) 3=(mny bs:Int):=by
 rw [List.length_map,Int.tdiv_eq_ediv_of_nonneg (by omega)]
 unfold mny;omega
def pad (bs:List Nat):List Int:=bs.map lev++List.replicate (3 * mny bs - bs.length) 0
theorem yG (bs:List Nat):(pad bs).length=3 * mny bs:=by
 unfold pad mny
 rw [List.length_append,List.length_map,List.length_replicate];omega
theorem Qaf {bs:List Nat} (hc:∀ b,b∈bs→chk b=0):∀ k,k∈pad bs→-16384≤k∧k≤16384:=by
 intro k hk
 unfold pad at hk
 rcases List.mem_append.1 hk with h | h
 ·obtain ⟨b,hb,rfl⟩:=List.mem_map.1 h
  exact Vz (hc b hb)
 ·rw [List.eq_of_mem_replicate h];omega
theorem Qda {n:Nat} (hn:100≤n) {W H:Int} {bs:List Nat} {a2:List D} {a3:Int} (hf:bs.length≤90):QS (Zp n W H a2 a3 (bs.map ZV)) n (bs.map ZV)=some ((pad bs).map I):=by
 obtain ⟨m,rfl⟩:∃ m,n=m+3:=⟨n - 3,by omega⟩
 have key:∀ (s:List D),s.length≤3 * mny bs→Zp (m+3) W H a2 a3 (bs.map ZV) s=if s.length < 3 * mny bs then some (.inl (s++[I 0])) else some (.inr s):=by
  intro s hs
  have hm:mny bs≤31:=by unfold mny;omega
  unfold Zp
  rw [JF,if_pos (by unfold Qa;omega)]
  by_cases h:s.length < 3 * mny bs
  ·rw [if_pos (by omega),if_pos h,if_pos (by unfold Q5;omega)]
  ·rw [if_neg (by omega),if_neg h]
 have hL:(bs.map ZV).length=bs.length:=List.length_map _
 have hpad:∀ k,3 * mny bs - bs.length=k→(pad bs).map I=bs.map ZV++List.replicate k (I 0):=by
  intro k hk
  unfold pad
  rw [hk,List.map_append,List.map_map,List.map_replicate]
  rfl
 have hd:3 * mny bs=bs.length ∨ 3 * mny bs=bs.length+1 ∨ 3 * mny bs=bs.length+2:=by unfold mny;omega
 rcases hd with h | h | h
 ·rw [Uj (k:=m+2) (e:=bs.map ZV) (by rw [key _ (by omega),if_neg (by omega)]),hpad 0 (by omega)]
  simp
 ·rw [WU (k:=m+2) (s':=bs.map ZV++[I 0]) (by rw [key _ (by omega),if_pos (by omega)]),
   Uj (k:=m+1) (e:=bs.map ZV++[I 0]) (by rw [key _ (by rw [List.length_append];simp;omega),if_neg (by rw [List.length_append];simp;omega)]),hpad 1 (by omega)]
  rfl
 ·rw [WU (k:=m+2) (s':=bs.map ZV++[I 0]) (by rw [key _ (by omega),if_pos (by omega)]),
   WU (k:=m+1) (s':=bs.map ZV++[I 0]++[I 0]) (by rw [key _ (by rw [List.length_append];simp;omega),if_pos (by rw [List.length_append];simp;omega)]),
   Uj (k:=m) (e:=bs.map ZV++[I 0]++[I 0]) (by rw [key _ (by rw [List.length_append,List.length_append];simp;omega),if_neg (by rw [List.length_append,List.length_append];simp;omega)]),hpad 2 (by omega)]
  rw [List.append_assoc];rfl
def kp (a3:Int) (j:Nat):Bool:=(IntKind.wrap .u16 (((BitVec.ofInt 16 (Int.fdiv a3 (2 ^ (min (Int.toNat (j:Int)) 16))) &&& BitVec.ofInt 16 1).toNat:Nat):Int)) == 0
theorem Qbl {a3:Int} {j:Nat}:(IntKind.wrap .u16 (((BitVec.ofInt 16 (Int.fdiv a3 (2 ^ (min (Int.toNat (j:Int)) 16))) &&& BitVec.ofInt 16 1).toNat:Nat):Int))=0↔kp a3 j=true:=by
 unfold kp;rw [beq_iff_eq]
def Yg (p:List Int) (st:Int) (j:Nat):Tel:=⟨st,j,p.getD (3 * j) 0,p.getD (3 * j+1) 0,p.getD (3 * j+2) 0⟩
def pce (a3:Int) (p:List Int) (j:Nat):List Tel:=(if kp a3 j=true then [Yg p 7 j] else [])++[Yg p 8 j]
def tls (a3:Int) (p:List Int) (q:Nat):List Tel:=(List.range q).flatMap (pce a3 p)
theorem Ye (a3:Int) (p:List Int) (q:Nat):tls a3 p (q+1)=tls a3 p q++pce a3 p q:=by
 unfold tls
 rw [List.range_succ,List.flatMap_append];simp
theorem V0 {p:List Int} (h:∀ k,k∈p→-16384≤k∧k≤16384) (i:Nat) : -16384≤p.getD i 0∧p.getD i 0≤16384:=by
 rw [List.getD_eq_getElem?_getD]
 cases hp:p[i]? with
 | none=>simp
 | some k=>simpa using h k (List.mem_of_getElem? hp)
theorem qu {p:List Int} (h:∀ k,k∈p→-16384≤k∧k≤16384) {st:Int} (hs:0≤st∧st≤255) {j:Nat} (hj:j≤65535):TelOk (Yg p st j):=by
 have h1:=V0 h (3 * j)
 have h2:=V0 h (3 * j+1)
 have h3:=V0 h (3 * j+2)
 exact ⟨hs,⟨by show (0:Int)≤(j:Int);omega,by show (j:Int)≤65535;omega⟩,⟨by show -1048576≤p.getD (3 * j) 0;omega,by show p.getD (3 * j) 0≤1048576;omega⟩,⟨by show -1048576≤p.getD (3 * j+1) 0;omega,by show p.getD (3 * j+1) 0≤1048576;omega⟩,⟨by show -1048576≤p.getD (3 * j+2) 0;omega,by show p.getD (3 * j+2) 0≤1048576;omega⟩⟩
theorem QaS {a3:Int} {p:List Int} (h:∀ k,k∈p→-16384≤k∧k≤16384) {q:Nat} (hq:q≤60000):∀ t,t∈tls a3 p q→TelOk t:=by
 intro t ht
 unfold tls pce at ht
 obtain ⟨j,hj,ht⟩:=List.mem_flatMap.1 ht
 have hj:=List.mem_range.1 hj
 rcases List.mem_append.1 ht with ht | ht
 ·split at ht
  ·rw [List.mem_singleton.1 ht];exact qu h (by omega) (by omega)
  ·cases ht
 ·rw [List.mem_singleton.1 ht];exact qu h (by omega) (by omega)
theorem Vp (a3:Int) (p:List Int):∀ q:Nat,q≤(tls a3 p q).length∧(tls a3 p q).length≤2 * q
 | 0=>⟨Nat.le_refl _,Nat.le_refl _⟩
 | q+1=>by
  have ih:=Vp a3 p q
  rw [Ye,List.length_append]
  unfold pce
  split <;> simp <;> omega
theorem J9 {p:List Int} {i:Nat} (h:i < p.length) {v:Int} (hv:v=(i:Int)):(nth (p.map I) (Int.toNat v)).bind U0=some (p.getD i 0):=by
 subst hv
 rw [Int.toNat_natCast,Yj,List.getElem?_map,List.getElem?_eq_getElem h,List.getD_eq_getElem?_getD,List.getElem?_eq_getElem h]
 rfl
theorem yQ {n:Nat} (hn:100≤n) {W H:Int} {bs:List Nat} {a2:List D} {a3:Int} {p:List Int} (hp:p.length=3 * mny bs) (hpb:∀ k,k∈p→-16384≤k∧k≤16384) (hf:bs.length≤90) {i:Nat} (hi:i < mny bs) {s:List D} (hs:s.length≤48 * i) :
  QW n W H a2 a3 (bs.map ZV) (p.map I) ((i:Int),s)=some (.inl ((i:Int)+1,s++VQ (pce a3 p i))):=by
 have hm:mny bs≤31:=by unfold mny;omega
 unfold QW
 dsimp only
 rw [JF,List.length_map,hp,if_pos (by omega),if_pos (by unfold Qa;omega),if_pos ⟨by omega,by omega⟩,J9 (i:=3 * i) (by omega) (by omega),Option.bind_some,if_pos (by unfold Qa;omega),if_pos ⟨by omega,by omega⟩,J9 (i:=3 * i+1) (by omega) (by omega),Option.bind_some,if_pos (by unfold Qa;omega),if_pos ⟨by omega,by omega⟩,J9 (i:=3 * i+2) (by omega) (by omega),Option.bind_some]
 have e7:=wE hn (qu hpb (st:=7) (by omega) (j:=i) (by omega))
 have e8:=wE hn (qu hpb (st:=8) (by omega) (j:=i) (by omega))
 have e7' : ZU n 7 (i:Int) 1 (p.getD (3 * i) 0) (p.getD (3 * i+1) 0) (p.getD (3 * i+2) 0)=_:=e7
 have e8' : ZU n 8 (i:Int) 1 (p.getD (3 * i) 0) (p.getD (3 * i+1) 0) (p.getD (3 * i+2) 0)=_:=e8
 rw [e7',Option.bind_some,e8',Option.bind_some]
 dsimp only
 rw [if_pos rfl,if_pos rfl,if_pos (by omega)]
 have hl8:=WH (Yg p 8 i)
 have hl7:=WH (Yg p 7 i)
 unfold pce
 by_cases hk:kp a3 i=true
 ·rw [if_pos (Qbl.2 hk),if_pos hk,if_pos (by unfold Q5;omega)]
  have h1:∀ l:List D,Q5 1 ((s++l).length+24)↔Q5 1 (s.length+l.length+24):=fun l=>by rw [List.length_append]
  rw [if_pos ((h1 _).2 (by unfold Q5;simp only [List.length_cons,List.length_nil];omega)),if_pos (by unfold Qa;omega)]
  have h2:VQ ([Yg p 7 i]++[Yg p 8 i])=frD (Yg p 7 i)++frD (Yg p 8 i):=by rw [Jw,qI,qI]
  rw [h2,← List.append_assoc]
  rfl
 ·rw [if_neg (fun h=>hk (Qbl.1 h)),if_neg hk,if_pos (by unfold Q5;omega),if_pos (by unfold Qa;omega),List.nil_append,qI]
  rfl
theorem Qc9 {n:Nat} (hn:100≤n) {W H:Int} {bs:List Nat} {a2:List D} {a3:Int} {p:List Int} (hp:p.length=3 * mny bs) (hpb:∀ k,k∈p→-16384≤k∧k≤16384) (hf:bs.length≤90) :
  QS (QW n W H a2 a3 (bs.map ZV) (p.map I)) n (0,[])=some (VQ (tls a3 p (mny bs))):=by
 have hm:mny bs≤31:=by unfold mny;omega
 have h:=ZI (step:=QW n W H a2 a3 (bs.map ZV) (p.map I)) (fun (s:List D) (j:Nat)=>(.inl (s++VQ (pce a3 p j)):List D⊕List D)) (fun s=>s) (fun i s=>((i:Int),s)) (List.range (mny bs)) (fun i s=>s=VQ (tls a3 p i))
  (fun i s x hx hs=>by
   have hi:=(List.getElem?_eq_some_iff.1 hx).1
   rw [List.length_range] at hi
   rw [List.getElem?_range hi] at hx
   cases hx
   have hl:=(Vp a3 p i).2
   exact ⟨(yQ hn hp hpb hf hi (by rw [hs,WW];omega)).trans (by rw [show (((i+1:Nat)):Int)=(i:Int)+1 by omega]),by rw [hs,Ye,Jw]⟩)
  (fun s _=>by
   unfold QW
   dsimp only
   rw [JF,List.length_range,if_neg (by omega)]) (k:=n) (s:=[]) rfl (by rw [List.length_range];omega)
 have hr:∀ (l:List Nat) (s:List D),VD (fun (s:List D) (j:Nat)=>(.inl (s++VQ (pce a3 p j)):List D⊕List D)) (fun s=>s) l s=s++VQ (l.flatMap (pce a3 p)):=by
  intro l
  induction l with
  | nil=>intro s;simp [VD,VQ]
  | cons t l ih=>intro s;show VD _ _ l (s++VQ (pce a3 p t))=_;rw [ih,List.flatMap_cons,Jw,List.append_assoc]
 rw [hr,List.nil_append] at h
 exact h
theorem QbE {ts:List Tel} {i:Nat} {t:Tel} (h:ts[i]?=some t):el U1 (ts.map YI) (i:Int)=some (t.st,t.j,1,t.x,t.y,t.z):=by
 unfold el
 rw [if_pos (Int.natCast_nonneg i),Int.toNat_natCast,Yj,List.getElem?_map,h]
 rfl
theorem qy {ts:List Tel} {i j:Nat} {p:List Int} {st:Int} (h:ts[i]?=some (Yg p st j)):el U1 (ts.map YI) (i:Int)=some (st,(j:Int),1,p.getD (3 * j) 0,p.getD (3 * j+1) 0,p.getD (3 * j+2) 0):=QbE h
def wr (len m:Nat) (v:D) (l:List D):List D:=if m < len then l.set m v else l
def flD (b:Nat):D:=.v (.float .f32 b)
def wr3 (len j:Nat) (a b c:D) (l:List D):List D:=wr len (3 * j+2) c (wr len (3 * j+1) b (wr len (3 * j) a l))
theorem QcY {n:Nat} (hn:100≤n) {W H:Int} {bs:List Nat} {a2:List D} {a3:Int} {p:List Int} (ha2:a2.length=bs.length) (hp:p.length=3 * mny bs) (hpb:∀ k,k∈p→-16384≤k∧k≤16384) (hb:bs.length≤90)
  {ts:List Tel} {t10:List D×List D×Int} (ht10:t10.1=ts.map YI) (htl:ts.length≤1000) {i j:Nat} (ht:ts[i]?=some (Yg p 7 j)) (hj:j < mny bs) {f l:Int} {ca ag re:List D} (hc:ca.length=mny bs) (hcj:ca[j]?=some (B false)) (hag:ag.length=bs.length) (hre:re.length=bs.length) :
  Qs n W H a2 a3 (bs.map ZV) (p.map I) t10 (f,l,(i:Int),ca,ag,re) =
   some (.inl (if f < 0 then (j:Int) else f,(j:Int),(i:Int)+1,ca.set j (B true),wr3 bs.length j (flD (smp (p.getD (3 * j) 0))) (flD (smp (p.getD (3 * j+1) 0))) (flD (smp (p.getD (3 * j+2) 0))) ag,wr3 bs.length j (flD 0) (flD 0) (flD 0) re)):=by
 have hi:=(List.getElem?_eq_some_iff.1 ht).1
 have hm:mny bs≤31:=by unfold mny;omega
 have h3:3 * j < bs.length:=by unfold mny at hj;omega
 have hs0:=(X7 (V0 hpb (3 * j))).2.2.2 n
 have hs1:=(X7 (V0 hpb (3 * j+1))).2.2.2 n
 have hs2:=(X7 (V0 hpb (3 * j+2))).2.2.2 n
 have hnth:(nth ca (Int.toNat (j:Int))).bind un_b=some false:=by
  rw [Int.toNat_natCast,Yj,hcj];rfl
 have e0:Int.toNat (3 * (j:Int)+0)=3 * j:=by omega
 have e1:Int.toNat (3 * (j:Int)+1)=3 * j+1:=by omega
 have e2:Int.toNat (3 * (j:Int)+2)=3 * j+2:=by omega
 unfold Qs
 dsimp only
 rw [ht10,if_pos (VA ht),qy ht,Option.bind_some]
 dsimp only
 rw [if_neg (by omega),JF,if_neg (by omega),if_pos rfl,if_pos rfl,if_pos ⟨by omega,by omega⟩,hnth,Option.bind_some,if_neg (by decide),List.length_map,hp,if_pos (by unfold Qa;omega),if_pos ⟨by omega,by omega⟩,J9 (i:=3 * j) (by omega) (by omega),Option.bind_some,
  if_pos (by unfold Qa;omega),if_pos ⟨by omega,by omega⟩,J9 (i:=3 * j+1) (by omega) (by omega),Option.bind_some,if_pos (by unfold Qa;omega),if_pos ⟨by omega,by omega⟩,J9 (i:=3 * j+2) (by omega) (by omega),Option.bind_some,if_pos (by simp),if_pos (by omega)]
 unfold wr3 wr
 by_cases hf:f < 0
 ·rw [if_pos hf,if_pos hf,if_pos (by unfold Qa;omega),if_pos (by omega),hs0,Option.bind_some,if_pos ⟨by omega,by omega⟩,if_pos (by omega),if_pos ⟨by omega,by omega⟩,if_pos (by omega)]
  by_cases h1:3 * j+1 < bs.length
  ·rw [if_pos (show (3 * (j:Int)+1) < (a2.length:Int) by omega),hs1,Option.bind_some,List.length_set,List.length_set,if_pos ⟨by omega,by omega⟩,if_pos (by omega),if_pos ⟨by omega,by omega⟩,if_pos (by omega)]
   by_cases h2:3 * j+2 < bs.length
   ·rw [if_pos (show (3 * (j:Int)+2) < (a2.length:Int) by omega),hs2,Option.bind_some,List.length_set,List.length_set,List.length_set,List.length_set,if_pos ⟨by omega,by omega⟩,if_pos (by omega),if_pos ⟨by omega,by omega⟩,if_pos (by omega),if_pos (by unfold Qa;omega),e0,e1,e2,Int.toNat_natCast,if_pos h2,if_pos h1,if_pos h3,if_pos h2,if_pos h1,if_pos h3]
    rfl
   ·rw [if_neg (show ¬ (3 * (j:Int)+2) < (a2.length:Int) by omega),if_pos (by unfold Qa;omega),e0,e1,Int.toNat_natCast,if_neg h2,if_pos h1,if_pos h3,if_neg h2,if_pos h1,if_pos h3]
    rfl
  ·have h2:¬ 3 * j+2 < bs.length:=by omega
   rw [if_neg (show ¬ (3 * (j:Int)+1) < (a2.length:Int) by omega),if_neg (show ¬ (3 * (j:Int)+2) < (a2.length:Int) by omega),if_pos (by unfold Qa;omega),e0,Int.toNat_natCast,if_neg h2,if_neg h1,if_pos h3,if_neg h2,if_neg h1,if_pos h3]
   rfl
 ·rw [if_neg hf,if_neg hf,if_pos (by unfold Qa;omega),if_pos (by omega),hs0,Option.bind_some,if_pos ⟨by omega,by omega⟩,if_pos (by omega),if_pos ⟨by omega,by omega⟩,if_pos (by omega)]
  by_cases h1:3 * j+1 < bs.length
  ·rw [if_pos (show (3 * (j:Int)+1) < (a2.length:Int) by omega),hs1,Option.bind_some,List.length_set,List.length_set,if_pos ⟨by omega,by omega⟩,if_pos (by omega),if_pos ⟨by omega,by omega⟩,if_pos (by omega)]
   by_cases h2:3 * j+2 < bs.length
   ·rw [if_pos (show (3 * (j:Int)+2) < (a2.length:Int) by omega),hs2,Option.bind_some,List.length_set,List.length_set,List.length_set,List.length_set,if_pos ⟨by omega,by omega⟩,if_pos (by omega),if_pos ⟨by omega,by omega⟩,if_pos (by omega),if_pos (by unfold Qa;omega),e0,e1,e2,Int.toNat_natCast,if_pos h2,if_pos h1,if_pos h3,if_pos h2,if_pos h1,if_pos h3]
    rfl
   ·rw [if_neg (show ¬ (3 * (j:Int)+2) < (a2.length:Int) by omega),if_pos (by unfold Qa;omega),e0,e1,Int.toNat_natCast,if_neg h2,if_pos h1,if_pos h3,if_neg h2,if_pos h1,if_pos h3]
    rfl
  ·have h2:¬ 3 * j+2 < bs.length:=by omega
   rw [if_neg (show ¬ (3 * (j:Int)+1) < (a2.length:Int) by omega),if_neg (show ¬ (3 * (j:Int)+2) < (a2.length:Int) by omega),if_pos (by unfold Qa;omega),e0,Int.toNat_natCast,if_neg h2,if_neg h1,if_pos h3,if_neg h2,if_neg h1,if_pos h3]
   rfl
theorem Qcr {n:Nat} (hn:100≤n) {W H:Int} {bs:List Nat} {a2:List D} {a3:Int} {p:List Int} (hb:bs.length≤90)
  {ts:List Tel} {t10:List D×List D×Int} (ht10:t10.1=ts.map YI) (htl:ts.length≤1000) {i j:Nat} (ht:ts[i]?=some (Yg p 8 j)) (hj:j < mny bs) {f l:Int} {ca ag re:List D} :
  Qs n W H a2 a3 (bs.map ZV) (p.map I) t10 (f,l,(i:Int),ca,ag,re)=some (.inl (f,l,(i:Int)+1,ca,ag,re)):=by
 have hi:=(List.getElem?_eq_some_iff.1 ht).1
 have hm:mny bs≤31:=by unfold mny;omega
 unfold Qs
 dsimp only
 rw [ht10,if_pos (VA ht),qy ht,Option.bind_some]
 dsimp only
 rw [if_neg (by omega),JF,if_neg (by omega),if_pos rfl,if_neg (by decide),if_pos (by unfold Qa;omega)]
theorem X6 (a3:Int) (p:List Int) (i:Nat):∀ q:Nat,i < q→∃ R,tls a3 p q=tls a3 p i++(pce a3 p i++R)
 | 0,h=>by omega
 | q+1,h=>by
  by_cases hq:i < q
  ·obtain ⟨R,hR⟩:=X6 a3 p i q hq
   exact ⟨R++pce a3 p q,by rw [Ye,hR];simp only [List.append_assoc]⟩
  ·have:i=q:=by omega
   subst this
   exact ⟨[],by rw [Ye,List.append_nil]⟩
def wrN {α:Type} (len m:Nat) (v:α) (l:List α):List α:=if m < len then l.set m v else l
theorem ym {α:Type} (f:α→D) (len m:Nat) (v:α) (l:List α):wr len m (f v) (l.map f)=(wrN len m v l).map f:=by
 unfold wr wrN
 split
 ·rw [List.map_set]
 ·rfl
def zH (len j:Nat) (a b c:Nat) (l:List Nat):List Nat:=wrN len (3 * j+2) c (wrN len (3 * j+1) b (wrN len (3 * j) a l))
theorem uq (len j a b c:Nat) (l:List Nat):wr3 len j (flD a) (flD b) (flD c) (l.map flD)=(zH len j a b c l).map flD:=by
 unfold wr3 zH
 rw [ym flD,ym flD,ym flD]
theorem EZ (len j a b c:Nat) (l:List Nat):(zH len j a b c l).length=l.length:=by
 have h:∀ (m:Nat) (v:Nat) (l:List Nat),(wrN len m v l).length=l.length:=by
  intro m v l
  unfold wrN
  split
  ·rw [List.length_set]
  ·rfl
 unfold zH
 rw [h,h,h]
abbrev St5:=Int×Int×List Bool×List Nat×List Nat
def stt (a3:Int) (p:List Int) (bs:List Nat):Nat→St5
 | 0=>(-1,-1,List.replicate (mny bs) false,List.replicate bs.length 0,bs)
 | i+1=>if kp a3 i=true then
   (if (stt a3 p bs i).1 < 0 then (i:Int) else (stt a3 p bs i).1,(i:Int),(stt a3 p bs i).2.2.1.set i true,zH bs.length i (smp (p.getD (3 * i) 0)) (smp (p.getD (3 * i+1) 0)) (smp (p.getD (3 * i+2) 0)) (stt a3 p bs i).2.2.2.1,zH bs.length i 0 0 0 (stt a3 p bs i).2.2.2.2)
  else stt a3 p bs i
theorem Xa {a3:Int} {p:List Int} {bs:List Nat} {i:Nat} (h:kp a3 i=true):stt a3 p bs (i+1)=(if (stt a3 p bs i).1 < 0 then (i:Int) else (stt a3 p bs i).1,(i:Int),(stt a3 p bs i).2.2.1.set i true,zH bs.length i (smp (p.getD (3 * i) 0)) (smp (p.getD (3 * i+1) 0)) (smp (p.getD (3 * i+2) 0)) (stt a3 p bs i).2.2.2.1,zH bs.length i 0 0 0 (stt a3 p bs i).2.2.2.2):=if_pos h
theorem qF {a3:Int} {p:List Int} {bs:List Nat} {i:Nat} (h:¬ kp a3 i=true):stt a3 p bs (i+1)=stt a3 p bs i:=if_neg h
theorem J5 (a3:Int) (p:List Int) (bs:List Nat):∀ i:Nat,(stt a3 p bs i).2.2.1.length=mny bs∧(stt a3 p bs i).2.2.2.1.length=bs.length∧(stt a3 p bs i).2.2.2.2.length=bs.length
 | 0=>⟨List.length_replicate,List.length_replicate,rfl⟩
 | i+1=>by
  have ih:=J5 a3 p bs i
  by_cases h:kp a3 i=true
  ·rw [Xa h]
   exact ⟨by rw [List.length_set];exact ih.1,by rw [EZ];exact ih.2.1,by rw [EZ];exact ih.2.2⟩
  ·rw [qF h];exact ih
theorem qG (a3:Int) (p:List Int) (bs:List Nat):∀ (i j:Nat),j < mny bs→(stt a3 p bs i).2.2.1[j]?=some (decide (j < i) && kp a3 j)
 | 0,j,hj=>by
  show (List.replicate (mny bs) false)[j]?=_
  rw [List.getElem?_replicate,if_pos hj];simp
 | i+1,j,hj=>by
  have ih:=qG a3 p bs i j hj
  have hl:=(J5 a3 p bs i).1
  by_cases h:kp a3 i=true
  ·rw [Xa h]
   show ((stt a3 p bs i).2.2.1.set i true)[j]?=_
   rw [List.getElem?_set]
   by_cases he:i=j
   ·subst he
    rw [if_pos rfl,if_pos (by omega),h];simp
   ·rw [if_neg he,ih]
    congr 2
    simp only [decide_eq_decide];omega
  ·rw [qF h,ih]
   by_cases he:i=j
   ·subst he
    have h2:kp a3 i=false:=by simpa using h
    rw [h2,Bool.and_false,Bool.and_false]
   ·congr 2
    simp only [decide_eq_decide];omega
def stD (s:St5) (c:Nat):Int×Int×Int×List D×List D×List D:=(s.1,s.2.1,(c:Int),s.2.2.1.map B,s.2.2.2.1.map flD,s.2.2.2.2.map flD)
theorem qX {n:Nat} (hn:100≤n) {W H:Int} {bs:List Nat} {a2:List D} {a3:Int} {p:List Int} (ha2:a2.length=bs.length) (hp:p.length=3 * mny bs) (hpb:∀ k,k∈p→-16384≤k∧k≤16384) (hb:bs.length≤90)
  {t10:List D×List D×Int} (ht10:t10.1=(tls a3 p (mny bs)).map YI):∀ (i:Nat),i≤mny bs→∀ k:Nat,
  QS (Qs n W H a2 a3 (bs.map ZV) (p.map I) t10) (k+(tls a3 p i).length) (stD (stt a3 p bs 0) 0)=QS (Qs n W H a2 a3 (bs.map ZV) (p.map I) t10) k (stD (stt a3 p bs i) (tls a3 p i).length)
 | 0,_,k=>rfl
 | i+1,hi,k=>by
  have hm:mny bs≤31:=by unfold mny;omega
  have htl:(tls a3 p (mny bs)).length≤1000:=by have:=(Vp a3 p (mny bs)).2;omega
  obtain ⟨R,hR⟩:=X6 a3 p i (mny bs) (by omega)
  obtain ⟨l1,l2,l3⟩:=J5 a3 p bs i
  by_cases h:kp a3 i=true
  ·have hpc:pce a3 p i=[Yg p 7 i,Yg p 8 i]:=by unfold pce;rw [if_pos h];rfl
   have hlen:(tls a3 p (i+1)).length=(tls a3 p i).length+2:=by rw [Ye,List.length_append,hpc];rfl
   have g7:(tls a3 p (mny bs))[(tls a3 p i).length]?=some (Yg p 7 i):=by rw [hR,hpc,List.getElem?_append_right (by omega),Nat.sub_self];rfl
   have g8:(tls a3 p (mny bs))[(tls a3 p i).length+1]?=some (Yg p 8 i):=by rw [hR,hpc,List.getElem?_append_right (by omega),Nat.add_sub_cancel_left];rfl
   have hcj:((stt a3 p bs i).2.2.1.map B)[i]?=some (B false):=by
    rw [List.getElem?_map,qG a3 p bs i i (by omega)]
    simp
   have s7:=QcY (n:=n) (W:=W) (H:=H) (a3:=a3) hn ha2 hp hpb hb ht10 htl g7 (by omega) (f:=(stt a3 p bs i).1) (l:=(stt a3 p bs i).2.1) (ca:=(stt a3 p bs i).2.2.1.map B) (ag:=(stt a3 p bs i).2.2.2.1.map flD) (re:=(stt a3 p bs i).2.2.2.2.map flD) (by rw [List.length_map];exact l1) hcj (by rw [List.length_map];exact l2) (by rw [List.length_map];exact l3)
   rw [uq,uq,show ((stt a3 p bs i).2.2.1.map B).set i (B true)=((stt a3 p bs i).2.2.1.set i true).map B by rw [List.map_set]] at s7
   have s8:=Qcr (n:=n) (W:=W) (H:=H) (a2:=a2) (a3:=a3) hn hb ht10 htl g8 (by omega) (f:=(stt a3 p bs (i+1)).1) (l:=(stt a3 p bs (i+1)).2.1) (ca:=(stt a3 p bs (i+1)).2.2.1.map B) (ag:=(stt a3 p bs (i+1)).2.2.2.1.map flD) (re:=(stt a3 p bs (i+1)).2.2.2.2.map flD)
   have e7:Qs n W H a2 a3 (bs.map ZV) (p.map I) t10 (stD (stt a3 p bs i) (tls a3 p i).length)=some (.inl (stD (stt a3 p bs (i+1)) ((tls a3 p i).length+1))):=by
    rw [Xa h]
    exact s7
   have e8:Qs n W H a2 a3 (bs.map ZV) (p.map I) t10 (stD (stt a3 p bs (i+1)) ((tls a3 p i).length+1))=some (.inl (stD (stt a3 p bs (i+1)) ((tls a3 p i).length+1+1))):=s8
   have ih:=qX hn (W:=W) (H:=H) ha2 hp hpb hb ht10 i (by omega) (k+2)
   rw [hlen,show k+((tls a3 p i).length+2)=k+2+(tls a3 p i).length by omega,ih,show k+2=k+1+1 by omega,WU e7,WU e8]
  ·have hpc:pce a3 p i=[Yg p 8 i]:=by unfold pce;rw [if_neg h];rfl
   have hlen:(tls a3 p (i+1)).length=(tls a3 p i).length+1:=by rw [Ye,List.length_append,hpc];rfl
   have g8:(tls a3 p (mny bs))[(tls a3 p i).length]?=some (Yg p 8 i):=by rw [hR,hpc,List.getElem?_append_right (by omega),Nat.sub_self];rfl
   have s8:=Qcr (n:=n) (W:=W) (H:=H) (a2:=a2) (a3:=a3) hn hb ht10 htl g8 (by omega) (f:=(stt a3 p bs i).1) (l:=(stt a3 p bs i).2.1) (ca:=(stt a3 p bs i).2.2.1.map B) (ag:=(stt a3 p bs i).2.2.2.1.map flD) (re:=(stt a3 p bs i).2.2.2.2.map flD)
   have e8:Qs n W H a2 a3 (bs.map ZV) (p.map I) t10 (stD (stt a3 p bs i) (tls a3 p i).length)=some (.inl (stD (stt a3 p bs i) ((tls a3 p i).length+1))):=s8
   have ih:=qX hn (W:=W) (H:=H) ha2 hp hpb hb ht10 i (by omega) (k+1)
   rw [hlen,show k+((tls a3 p i).length+1)=k+1+(tls a3 p i).length by omega,ih,WU e8,qF h]
theorem Qc8 {n:Nat} (hn:200≤n) {W H:Int} {bs:List Nat} {a2:List D} {a3:Int} {p:List Int} (ha2:a2.length=bs.length) (hp:p.length=3 * mny bs) (hpb:∀ k,k∈p→-16384≤k∧k≤16384) (hb:bs.length≤90)
  {t10:List D×List D×Int} (ht10:t10.1=(tls a3 p (mny bs)).map YI) :
  QS (Qs n W H a2 a3 (bs.map ZV) (p.map I) t10) n (stD (stt a3 p bs 0) 0)=some ((stt a3 p bs (mny bs)).1,(stt a3 p bs (mny bs)).2.1,(stt a3 p bs (mny bs)).2.2.1.map B,(stt a3 p bs (mny bs)).2.2.2.1.map flD,(stt a3 p bs (mny bs)).2.2.2.2.map flD):=by
 have hm:mny bs≤31:=by unfold mny;omega
 have hl:=(Vp a3 p (mny bs)).2
 obtain ⟨k,hk⟩:∃ k,n=k+1+(tls a3 p (mny bs)).length:=⟨n - 1 - (tls a3 p (mny bs)).length,by omega⟩
 have h:=qX (n:=n) (W:=W) (H:=H) (by omega) ha2 hp hpb hb ht10 (mny bs) (Nat.le_refl _) (k+1)
 have h2:QS (Qs n W H a2 a3 (bs.map ZV) (p.map I) t10) (k+1) (stD (stt a3 p bs (mny bs)) (tls a3 p (mny bs)).length)=some ((stt a3 p bs (mny bs)).1,(stt a3 p bs (mny bs)).2.1,(stt a3 p bs (mny bs)).2.2.1.map B,(stt a3 p bs (mny bs)).2.2.2.1.map flD,(stt a3 p bs (mny bs)).2.2.2.2.map flD):=by
  refine Uj ?_
  unfold Qs stD
  dsimp only
  rw [ht10,List.length_map,if_neg (by omega)]
 rw [← h2,← h,← hk]
theorem wU {len i v:Nat} {l:List Nat} (hl:l.length=len) {m:Nat} (hm:m < len):(wrN len i v l)[m]?=if m=i then some v else l[m]?:=by
 unfold wrN
 by_cases h:i < len
 ·rw [if_pos h,List.getElem?_set]
  by_cases he:i=m
  ·rw [if_pos he,if_pos (by omega),if_pos he.symm]
  ·rw [if_neg he,if_neg (fun e=>he e.symm)]
 ·rw [if_neg h,if_neg (by omega)]
theorem wT {len i v:Nat} {l:List Nat}:(wrN len i v l).length=l.length:=by
 unfold wrN
 split
 ·rw [List.length_set]
 ·rfl
theorem jT {len i a b c:Nat} {l:List Nat} (hl:l.length=len) {m:Nat} (hm:m < len):(zH len i a b c l)[m]?=if m=3 * i+2 then some c else if m=3 * i+1 then some b else if m=3 * i then some a else l[m]?:=by
 unfold zH
 rw [wU (by rw [wT,wT];exact hl) hm,wU (by rw [wT];exact hl) hm,wU hl hm]
def agW (a3:Int) (p:List Int) (i m:Nat):Nat:=if m < 3 * i∧kp a3 (m / 3)=true then smp (p.getD m 0) else 0
def reW (a3:Int) (i m b:Nat):Nat:=if m < 3 * i∧kp a3 (m / 3)=true then 0 else b
theorem uu (a3:Int) (p:List Int) (bs:List Nat):∀ (i m b:Nat),bs[m]?=some b→(stt a3 p bs i).2.2.2.1[m]?=some (agW a3 p i m)∧(stt a3 p bs i).2.2.2.2[m]?=some (reW a3 i m b)
 | 0,m,b,hb=>by
  have hm:=(List.getElem?_eq_some_iff.1 hb).1
  unfold agW reW
  rw [if_neg (by omega),if_neg (by omega)]
  exact ⟨by show (List.replicate bs.length 0)[m]?=_;rw [List.getElem?_replicate,if_pos hm],hb⟩
 | i+1,m,b,hb=>by
  have hm:=(List.getElem?_eq_some_iff.1 hb).1
  obtain ⟨h1,h2⟩:=uu a3 p bs i m b hb
  obtain ⟨l1,l2,l3⟩:=J5 a3 p bs i
  by_cases h:kp a3 i=true
  ·rw [Xa h]
   dsimp only
   rw [jT l2 hm,jT l3 hm,h1,h2]
   have hx:∀ r,r < 3→m=3 * i+r→(m < 3 * (i+1)∧kp a3 (m / 3)=true):=fun r hr e=>⟨by omega,by rw [show m / 3=i by omega];exact h⟩
   by_cases e2:m=3 * i+2
   ·rw [if_pos e2,if_pos e2]
    unfold agW reW
    rw [if_pos (hx 2 (by omega) e2),if_pos (hx 2 (by omega) e2),e2]
    exact ⟨rfl,rfl⟩
   ·rw [if_neg e2,if_neg e2]
    by_cases e1:m=3 * i+1
    ·rw [if_pos e1,if_pos e1]
     unfold agW reW
     rw [if_pos (hx 1 (by omega) e1),if_pos (hx 1 (by omega) e1),e1]
     exact ⟨rfl,rfl⟩
    ·rw [if_neg e1,if_neg e1]
     by_cases e0:m=3 * i
     ·rw [if_pos e0,if_pos e0]
      unfold agW reW
      rw [if_pos (hx 0 (by omega) e0),if_pos (hx 0 (by omega) e0),e0]
      exact ⟨rfl,rfl⟩
     ·rw [if_neg e0,if_neg e0]
      have hiff:(m < 3 * (i+1)∧kp a3 (m / 3)=true)↔(m < 3 * i∧kp a3 (m / 3)=true):=⟨fun q=>⟨by omega,q.2⟩,fun q=>⟨by omega,q.2⟩⟩
      unfold agW reW
      simp only [hiff]
      exact ⟨trivial,trivial⟩
  ·rw [qF h,h1,h2]
   have hiff:(m < 3 * (i+1)∧kp a3 (m / 3)=true)↔(m < 3 * i∧kp a3 (m / 3)=true):=⟨fun q=>⟨by
    by_cases hlt:m < 3 * i
    ·exact hlt
    ·exfalso
     have:m / 3=i:=by omega
     rw [this] at q;exact h q.2,q.2⟩,fun q=>⟨by omega,q.2⟩⟩
   unfold agW reW
   simp only [hiff]
   exact ⟨trivial,trivial⟩
theorem Qb1 {bs:List Nat} {m b:Nat} (hb:bs[m]?=some b):(pad bs).getD m 0=lev b:=by
 have hm:=(List.getElem?_eq_some_iff.1 hb).1
 unfold pad
 rw [List.getD_eq_getElem?_getD,List.getElem?_append_left (by rw [List.length_map];exact hm),List.getElem?_map,hb]
 rfl
def agn (a3:Int) (bs:List Nat):List Nat:=(stt a3 (pad bs) bs (mny bs)).2.2.2.1
def rst (a3:Int) (bs:List Nat):List Nat:=(stt a3 (pad bs) bs (mny bs)).2.2.2.2
theorem Qcj {a3:Int} {bs:List Nat} {m b:Nat} (hb:bs[m]?=some b):(agn a3 bs)[m]?=some (if kp a3 (m / 3)=true then smp (lev b) else 0)∧(rst a3 bs)[m]?=some (if kp a3 (m / 3)=true then 0 else b):=by
 have hm:=(List.getElem?_eq_some_iff.1 hb).1
 obtain ⟨h1,h2⟩:=uu a3 (pad bs) bs (mny bs) m b hb
 have h3:m < 3 * mny bs:=by unfold mny;omega
 unfold agn rst
 rw [h1,h2]
 unfold agW reW
 rw [Qb1 hb]
 simp only [h3,true_and]
theorem XJ (a3:Int) (bs:List Nat):(agn a3 bs).length=bs.length∧(rst a3 bs).length=bs.length:=(J5 a3 (pad bs) bs (mny bs)).2
theorem zB {a3:Int} {bs:List Nat} (hc:∀ b,b∈bs→chk b=0) {m b:Nat} (hb:bs[m]?=some b):∃ x y,(agn a3 bs)[m]?=some x∧(rst a3 bs)[m]?=some y∧chk x=0∧chk y=0∧lev x+lev y=lev b:=by
 obtain ⟨h1,h2⟩:=Qcj (a3:=a3) hb
 have hcb:=hc b (List.mem_of_getElem? hb)
 obtain ⟨q1,q2,_,_⟩:=X7 (Vz hcb)
 obtain ⟨z1,z2⟩:=QbS
 refine ⟨_,_,h1,h2,?_,?_,?_⟩
 ·split
  ·exact q1
  ·exact z1
 ·split
  ·exact z1
  ·exact hcb
 ·by_cases hk:kp a3 (m / 3)=true
  ·rw [if_pos hk,if_pos hk,q2,z2];omega
  ·rw [if_neg hk,if_neg hk,z2];omega
theorem Qck {a3:Int} {bs:List Nat} (hc:∀ b,b∈bs→chk b=0):(∀ x,x∈agn a3 bs→chk x=0)∧∀ y,y∈rst a3 bs→chk y=0:=by
 obtain ⟨l1,l2⟩:=XJ a3 bs
 constructor
 ·intro x hx
  obtain ⟨m,hm,rfl⟩:=List.mem_iff_getElem.1 hx
  obtain ⟨x',y',h1,h2,h3,h4,h5⟩:=zB (a3:=a3) hc (List.getElem?_eq_getElem (show m < bs.length by omega))
  rw [List.getElem?_eq_getElem hm] at h1
  cases h1;exact h3
 ·intro x hx
  obtain ⟨m,hm,rfl⟩:=List.mem_iff_getElem.1 hx
  obtain ⟨x',y',h1,h2,h3,h4,h5⟩:=zB (a3:=a3) hc (List.getElem?_eq_getElem (show m < bs.length by omega))
  rw [List.getElem?_eq_getElem hm] at h2
  cases h2;exact h4
theorem jM {a3:Int} {bs:List Nat} (hc:∀ b,b∈bs→chk b=0):zD (agn a3 bs) (rst a3 bs)=bs.map lev:=by
 obtain ⟨l1,l2⟩:=XJ a3 bs
 apply List.ext_getElem?
 intro m
 unfold zD
 rw [List.getElem?_map,List.getElem?_map]
 by_cases hm:m < bs.length
 ·obtain ⟨x,y,h1,h2,h3,h4,h5⟩:=zB (a3:=a3) hc (List.getElem?_eq_getElem hm)
  have hz:((agn a3 bs).zip (rst a3 bs))[m]?=some (x,y):=List.getElem?_zip_eq_some.2 ⟨h1,h2⟩
  rw [hz,List.getElem?_eq_getElem hm]
  show some (lev x+lev y)=some (lev bs[m])
  rw [h5]
 ·rw [List.getElem?_eq_none (by rw [List.length_zip];omega),List.getElem?_eq_none (by omega)]
  rfl
theorem ut:∀ (xs ys:List Nat),xs.length=ys.length→(zD xs ys).sum=(xs.map lev).sum+(ys.map lev).sum
 | [],[],_=>rfl
 | x::xs,y::ys,h=>by
  have ih:=ut xs ys (by simpa using h)
  show (lev x+lev y)+(zD xs ys).sum=(lev x+(xs.map lev).sum)+(lev y+(ys.map lev).sum)
  rw [ih];omega
 | [],_::_,h=>by simp at h
 | _::_,[],h=>by simp at h
theorem QbW {a3:Int} {bs:List Nat} (hc:∀ b,b∈bs→chk b=0):((agn a3 bs).map lev).sum+((rst a3 bs).map lev).sum=(bs.map lev).sum:=by
 obtain ⟨l1,l2⟩:=XJ a3 bs
 rw [← ut _ _ (by omega),jM hc]
theorem yv {bs:List Nat} (hc:∀ b,b∈bs→chk b=0) (i a b:Nat) (ha:((bs.map lev).map smp)[i]?=some a) (hb:bs[i]?=some b):Ieee.single.order a b=some .eq:=by
 rw [List.getElem?_map,List.getElem?_map,hb] at ha
 cases ha
 have hcb:=hc b (List.mem_of_getElem? hb)
 obtain ⟨q1,q2,_,_⟩:=X7 (Vz hcb)
 exact QcJ q1 hcb q2
theorem QcQ {W H:Int} {a3:Int} {bs:List Nat} (h:MapOk W H bs):MapOk W H (agn a3 bs)∧MapOk W H (rst a3 bs):=by
 obtain ⟨l1,l2⟩:=XJ a3 bs
 obtain ⟨c1,c2⟩:=Qck (a3:=a3) h.chk
 exact ⟨⟨h.w,h.h,by rw [l1];exact h.len,by rw [l1];exact h.few,c1⟩,⟨h.w,h.h,by rw [l2];exact h.len,by rw [l2];exact h.few,c2⟩⟩
def nD (m:Nat):D:=I (m:Int)
theorem qU {n:Nat} {a0:List D} {a1:Int} {sa:Int×Int×List D} {ta:Int×Int×Int×Int×Int×Int} {j:Nat} (hta:ta.2.1=(j:Int)) (hj:j≤100):∀ (d L k:Nat) (o:List D),L+d=j→o.length+d≤200→d < k →
  QS (ZX n a0 a1 sa ta) k ((L:Int),o)=some (.inl (o++(List.range' L d).map nD))
 | 0,L,k,o,h,ho,hk=>by
  obtain ⟨k,rfl⟩:∃ k',k=k'+1:=⟨k - 1,by omega⟩
  rw [Uj (e:=.inl o)]
  ·simp
  ·unfold ZX
   dsimp only
   rw [if_pos (by rw [hta];omega)]
 | d+1,L,k,o,h,ho,hk=>by
  obtain ⟨k,rfl⟩:∃ k',k=k'+1:=⟨k - 1,by omega⟩
  have ih:=qU (n:=n) (a0:=a0) (a1:=a1) (sa:=sa) hta hj d (L+1) k (o++[nD L]) (by omega) (by rw [List.length_append];simp;omega) (by omega)
  rw [WU (s':=(((L+1:Nat):Int),o++[nD L]))]
  ·rw [ih,List.range'_succ,List.map_cons,List.append_assoc,List.singleton_append]
  ·unfold ZX
   dsimp only
   rw [if_neg (by rw [hta];omega),if_neg (by omega),if_pos (by unfold Q5;omega),if_pos (by unfold Qa;omega),Int.tmod_eq_emod_of_nonneg (by omega),show ((L:Int)+1) % 65536=((L+1:Nat):Int) by omega]
   rfl
abbrev Gs:=Int×List Nat
def gst (s:Gs) (j:Nat):Gs:=((j:Int),if s.1 < 0 then s.2 else s.2++List.range' (s.1.toNat+1) (j - s.1.toNat - 1))
def gp (pr:Nat→Bool):Nat→Gs
 | 0=>(-1,[])
 | i+1=>if pr i=true then gst (gp pr i) i else gp pr i
theorem zh {pr:Nat→Bool} {i:Nat} (h:pr i=true):gp pr (i+1)=gst (gp pr i) i:=if_pos h
theorem Qbp {pr:Nat→Bool} {i:Nat} (h:¬ pr i=true):gp pr (i+1)=gp pr i:=if_neg h
theorem kP (pr:Nat→Bool):∀ i:Nat,-1≤(gp pr i).1∧(gp pr i).1 < (i:Int)∧((gp pr i).2.length:Int)≤(gp pr i).1+1
 | 0=>⟨Int.le_refl _,by show (-1:Int) < ((0:Nat):Int);omega,by show ((0:Nat):Int)≤-1+1;omega⟩
 | i+1=>by
  obtain ⟨h1,h2,h3⟩:=kP pr i
  by_cases h:pr i=true
  ·rw [zh h]
   unfold gst
   dsimp only
   refine ⟨by omega,by omega,?_⟩
   split
   ·omega
   ·rw [List.length_append,List.length_range'];omega
  ·rw [Qbp h]
   exact ⟨h1,by omega,h3⟩
def gD (s:Gs) (c:Nat):Int×Int×List D:=(s.1,(c:Int),s.2.map nD)
theorem qV {n:Nat} (hn:400≤n) {ts:List Tel} {p:List Int} {st:Int} {c j:Nat} (ht:ts[c]?=some (Yg p st j)) (htl:ts.length≤1000) (hj:j≤90) {s:Gs} (h1 : -1≤s.1) (h2:s.1 < (j:Int)) (h3:(s.2.length:Int)≤s.1+1) :
  QO n (ts.map YI) st (gD s c)=some (.inl (gD (gst s j) (c+1))):=by
 have hi:=(List.getElem?_eq_some_iff.1 ht).1
 unfold QO gD gst
 dsimp only
 rw [if_pos (VA ht),qy ht,Option.bind_some]
 dsimp only
 rw [if_pos rfl]
 by_cases h0:s.1 < 0
 ·rw [if_neg (by omega),if_pos (by unfold Qa;omega),if_pos h0]
  rfl
 ·rw [if_pos (by omega),if_pos (by unfold Qa;omega),Int.tmod_eq_emod_of_nonneg (by omega),show (s.1+1) % 65536=((s.1.toNat+1:Nat):Int) by omega,
   qU (ta:=(st,(j:Int),1,p.getD (3 * j) 0,p.getD (3 * j+1) 0,p.getD (3 * j+2) 0)) rfl (by omega) (j - s.1.toNat - 1) (s.1.toNat+1) n (s.2.map nD) (by omega) (by rw [List.length_map];omega) (by omega),Option.bind_some]
  dsimp only
  rw [if_pos (by unfold Qa;omega),if_neg h0,List.map_append]
  rfl
theorem Ef {n:Nat} {ts:List Tel} {p:List Int} {st a1:Int} (hne:st≠a1) {c j:Nat} (ht:ts[c]?=some (Yg p st j)) (htl:ts.length≤1000) {s:Gs} :
  QO n (ts.map YI) a1 (gD s c)=some (.inl (gD s (c+1))):=by
 have hi:=(List.getElem?_eq_some_iff.1 ht).1
 unfold QO gD
 dsimp only
 rw [if_pos (VA ht),qy ht,Option.bind_some]
 dsimp only
 rw [if_neg hne,if_pos (by unfold Qa;omega)]
 rfl
def prd (a3 a1:Int) (i:Nat):Bool:=if a1=7 then kp a3 i else true
theorem js {n:Nat} (hn:400≤n) {q:Nat} (hq:q≤31) (a3:Int) (p:List Int) {a1:Int} (ha:a1=7 ∨ a1=8):∀ (i:Nat),i≤q→∀ k:Nat,
  QS (QO n ((tls a3 p q).map YI) a1) (k+(tls a3 p i).length) (gD (gp (prd a3 a1) 0) 0)=QS (QO n ((tls a3 p q).map YI) a1) k (gD (gp (prd a3 a1) i) (tls a3 p i).length)
 | 0,_,k=>rfl
 | i+1,hi,k=>by
  have htl:(tls a3 p q).length≤1000:=by have:=(Vp a3 p q).2;omega
  obtain ⟨R,hR⟩:=X6 a3 p i q (by omega)
  obtain ⟨b1,b2,b3⟩:=kP (prd a3 a1) i
  by_cases h:kp a3 i=true
  ·have hpc:pce a3 p i=[Yg p 7 i,Yg p 8 i]:=by unfold pce;rw [if_pos h];rfl
   have hlen:(tls a3 p (i+1)).length=(tls a3 p i).length+2:=by rw [Ye,List.length_append,hpc];rfl
   have g7:(tls a3 p q)[(tls a3 p i).length]?=some (Yg p 7 i):=by rw [hR,hpc,List.getElem?_append_right (by omega),Nat.sub_self];rfl
   have g8:(tls a3 p q)[(tls a3 p i).length+1]?=some (Yg p 8 i):=by rw [hR,hpc,List.getElem?_append_right (by omega),Nat.add_sub_cancel_left];rfl
   have ih:=js hn hq a3 p ha i (by omega) (k+2)
   have hp1:prd a3 a1 i=true:=by unfold prd;split <;> first | exact h | rfl
   rw [hlen,show k+((tls a3 p i).length+2)=k+2+(tls a3 p i).length by omega,ih,show k+2=k+1+1 by omega,zh hp1]
   rcases ha with rfl | rfl
   ·rw [WU (qV hn g7 htl (by omega) b1 b2 b3),WU (Ef (by decide) g8 htl)]
   ·rw [WU (Ef (by decide) g7 htl),WU (qV hn g8 htl (by omega) b1 b2 b3)]
  ·have hpc:pce a3 p i=[Yg p 8 i]:=by unfold pce;rw [if_neg h];rfl
   have hlen:(tls a3 p (i+1)).length=(tls a3 p i).length+1:=by rw [Ye,List.length_append,hpc];rfl
   have g8:(tls a3 p q)[(tls a3 p i).length]?=some (Yg p 8 i):=by rw [hR,hpc,List.getElem?_append_right (by omega),Nat.sub_self];rfl
   have ih:=js hn hq a3 p ha i (by omega) (k+1)
   rw [hlen,show k+((tls a3 p i).length+1)=k+1+(tls a3 p i).length by omega,ih]
   rcases ha with rfl | rfl
   ·rw [WU (Ef (by decide) g8 htl),Qbp (by unfold prd;rw [if_pos rfl];exact h)]
   ·rw [WU (qV hn g8 htl (by omega) b1 b2 b3),zh (by unfold prd;rw [if_neg (by decide)])]
theorem uF {n:Nat} (hn:400≤n) {q:Nat} (hq:q≤31) (a3:Int) {p:List Int} (hpb:∀ k,k∈p→-16384≤k∧k≤16384) {a1:Int} (ha:a1=7 ∨ a1=8) :
  Q1 n ((tls a3 p q).map YI) a1=some ((gp (prd a3 a1) q).2.map nD,0):=by
 have hl:=(Vp a3 p q).2
 have hok:=QaS (a3:=a3) hpb (q:=q) (by omega)
 unfold Q1
 rw [if_neg (by rw [List.length_map];omega)]
 have hm:Wg n ((tls a3 p q).map YI)=some ((List.replicate (tls a3 p q).length (0:Int)).map I):=by
  unfold Wg
  rw [JG (L:=Zt n ((tls a3 p q).map YI)) (tls a3 p q) (fun _=>I 0) ?_ ?_ (by omega),Option.bind_some,List.map_replicate]
  ·congr 1
   exact List.eq_replicate_iff.2 ⟨List.length_map _,fun b hb=>by
    obtain ⟨_,_,h⟩:=List.mem_map.1 hb
    exact h.symm⟩
  ·intro i x s hx hs
   have hi:=(List.getElem?_eq_some_iff.1 hx).1
   unfold Zt
   dsimp only
   rw [if_pos (VA hx),QbE hx,Option.bind_some]
   dsimp only
   rw [E0 (by omega) (hok x (List.mem_of_getElem? hx)),Option.bind_some,if_pos (by unfold Q5;omega),if_pos (by unfold Qa;omega)]
  ·intro s hs
   unfold Zt
   rw [if_neg (by simp)]
 have h1:inR a1 0 255=0:=jv (by rcases ha with rfl | rfl <;> omega)
 rw [hm,Option.bind_some,Ub (by omega) _ (by omega),Option.bind_some,W5,Option.bind_some,h1,show ([I 0,I 0]:List D)=(List.replicate 2 (0:Int)).map I from rfl,Ub (by omega) 2 (by omega),Option.bind_some,if_pos rfl]
 obtain ⟨k,hk⟩:∃ k,n=k+1+(tls a3 p q).length:=⟨n - 1 - (tls a3 p q).length,by omega⟩
 have h:=js hn hq a3 p ha q (Nat.le_refl _) (k+1)
 have h2:QS (QO n ((tls a3 p q).map YI) a1) (k+1) (gD (gp (prd a3 a1) q) (tls a3 p q).length)=some (false,(gp (prd a3 a1) q).2.map nD):=by
  refine Uj ?_
  unfold QO gD
  dsimp only
  rw [List.length_map,if_neg (by omega)]
 have h3:QS (QO n ((tls a3 p q).map YI) a1) n (-1,0,[])=some (false,(gp (prd a3 a1) q).2.map nD):=by
  rw [← h2,← h,← hk]
  rfl
 rw [h3,Option.bind_some]
 dsimp only
 rw [if_neg (by decide)]
theorem Qbq:∀ i:Nat,(gp (fun _=>true) i).1=(i:Int) - 1∧(gp (fun _=>true) i).2=[]
 | 0=>⟨by decide,rfl⟩
 | i+1=>by
  obtain ⟨h1,h2⟩:=Qbq i
  rw [zh rfl]
  unfold gst
  dsimp only
  refine ⟨by omega,?_⟩
  rw [h2,h1]
  split
  ·rfl
  ·rw [show i - ((i:Int) - 1).toNat - 1=0 by omega];rfl
theorem Qc6 {n:Nat} (hn:400≤n) {q:Nat} (hq:q≤31) (a3:Int) {p:List Int} (hpb:∀ k,k∈p→-16384≤k∧k≤16384):Q1 n ((tls a3 p q).map YI) 8=some ([],0):=by
 rw [uF hn hq a3 hpb (.inr rfl)]
 have:prd a3 8=fun _=>true:=by funext i;unfold prd;rw [if_neg (by decide)]
 rw [this,(Qbq q).2]
 rfl
def pw (a3 F L:Int) (m:Nat):Bool:=!kp a3 m && (decide (F < (m:Int)) && decide ((m:Int) < L))
theorem Qa3 {a3 F L:Int} {m:Nat} (h1:kp a3 m=false) (h2:F < (m:Int)) (h3:(m:Int) < L):pw a3 F L m=true:=by
 unfold pw;rw [h1,decide_eq_true h2,decide_eq_true h3];rfl
theorem wp {a3 F L:Int} {m:Nat} (h:¬ (m:Int) < L):pw a3 F L m=false:=by
 unfold pw;rw [decide_eq_false h,Bool.and_false,Bool.and_false]
theorem Qct {a3 F L:Int} {m:Nat} (h:¬ F < (m:Int)):pw a3 F L m=false:=by
 unfold pw;rw [decide_eq_false h,Bool.false_and,Bool.and_false]
theorem Qa4 {a3 F L:Int} {m:Nat} (h:kp a3 m=true):pw a3 F L m=false:=by
 unfold pw;rw [h];rfl
def wnt (a3 F L:Int) (i:Nat):List Nat:=(List.range i).filter (pw a3 F L)
theorem QaN (a3 F L:Int) (i:Nat):wnt a3 F L (i+1)=wnt a3 F L i++if pw a3 F L i=true then [i] else []:=by
 unfold wnt
 rw [List.range_succ,List.filter_append]
 by_cases h:pw a3 F L i=true
 ·rw [if_pos h,List.filter_cons_of_pos h];rfl
 ·rw [if_neg h,List.filter_cons_of_neg h];rfl
theorem Qac {a b:Nat} (h:a≤b):List.range b=List.range a++List.range' a (b - a):=by
 rw [List.range_eq_range',List.range_eq_range']
 have q:=List.range'_append_1 (s:=0) (m:=a) (n:=b - a)
 rw [show a+(b - a)=b by omega,Nat.zero_add] at q
 exact q.symm
theorem fnil {p:Nat→Bool} {l:List Nat} (h:∀ m,m∈l→p m=false):l.filter p=[]:=by
 rw [List.filter_eq_nil_iff]
 intro m hm
 rw [h m hm];decide
theorem fall {p:Nat→Bool} {l:List Nat} (h:∀ m,m∈l→p m=true):l.filter p=l:=List.filter_eq_self.2 h
structure Ends (a3 F L:Int) (g:Gs) (i:Nat):Prop where
 lst:g.1=L
 lo : -1≤F∧F≤L
 hi:L < (i:Int)
 neg:F < 0→L < 0
 none:∀ m:Nat,L < (m:Int)→m < i→kp a3 m=false
 last:0≤L→kp a3 L.toNat=true
 all:g.2=wnt a3 F L i
theorem QbB {a3 F L:Int} {g:Gs} {i:Nat} (h:Ends a3 F L g i) (hk:kp a3 i=true):Ends a3 (if F < 0 then (i:Int) else F) (i:Int) (gst g i) (i+1):=by
 obtain ⟨lst,⟨lo,le⟩,hi,neg,none,last,all⟩:=h
 refine ⟨rfl,?_,by omega,?_,fun m h1 h2=>absurd h1 (by omega),fun _=>by rw [Int.toNat_natCast];exact hk,?_⟩
 ·split <;> omega
 ·split <;> omega
 ·unfold gst
  dsimp only
  rw [lst,all]
  by_cases h0:F < 0
  ·rw [if_pos h0,if_pos (neg h0)]
   unfold wnt
   rw [fnil,fnil]
   ·intro m hm
    rw [List.mem_range] at hm
    by_cases hmi:m < i
    ·exact Qct (by omega)
    ·exact wp (by omega)
   ·intro m hm
    exact wp (by have:=neg h0;omega)
  ·rw [if_neg h0,if_neg (by omega)]
   obtain ⟨k,rfl⟩:∃ k:Nat,L=(k:Int):=⟨L.toNat,by omega⟩
   rw [Int.toNat_natCast] at last ⊢
   have hkk:=last (by omega)
   have hlt:k < i:=by omega
   unfold wnt
   rw [List.range_succ,Qac (a:=k+1) (b:=i) (by omega),List.filter_append,List.filter_append,List.filter_append,
    fnil (p:=pw a3 F (k:Int)) (l:=List.range' (k+1) (i - (k+1))) (fun m hm=>wp (by rw [List.mem_range'_1] at hm;omega)),
    fall (p:=pw a3 F (i:Int)) (l:=List.range' (k+1) (i - (k+1))) (fun m hm=>by
     rw [List.mem_range'_1] at hm
     exact Qa3 (none m (by omega) (by omega)) (by omega) (by omega)),
    fnil (p:=pw a3 F (i:Int)) (l:=[i]) (fun m hm=>by
     rw [List.mem_singleton] at hm
     exact wp (by omega)),List.append_nil,List.append_nil,show i - k - 1=i - (k+1) by omega]
   congr 1
   refine List.filter_congr fun m hm=>?_
   rw [List.mem_range] at hm
   by_cases hmk:m=k
   ·rw [hmk,Qa4 hkk,Qa4 hkk]
   ·unfold pw
    rw [decide_eq_true (show (m:Int) < (k:Int) by omega),decide_eq_true (show (m:Int) < (i:Int) by omega)]
theorem Qcb {a3 F L:Int} {g:Gs} {i:Nat} (h:Ends a3 F L g i) (hk:¬ kp a3 i=true):Ends a3 F L g (i+1):=by
 obtain ⟨lst,lo,hi,neg,none,last,all⟩:=h
 refine ⟨lst,lo,by omega,neg,fun m h1 h2=>?_,last,?_⟩
 ·by_cases hm:m < i
  ·exact none m h1 hm
  ·have:m=i:=by omega
   rw [this];simpa using hk
 ·rw [QaN,if_neg (by rw [wp (by omega)];decide),List.append_nil,all]
theorem ends (a3:Int) (p:List Int) (bs:List Nat):∀ i:Nat,Ends a3 (stt a3 p bs i).1 (stt a3 p bs i).2.1 (gp (prd a3 7) i) i
 | 0=>⟨rfl,⟨Int.le_refl _,Int.le_refl _⟩,by show (-1:Int) < ((0:Nat):Int);omega,fun _=>by show (-1:Int) < 0;omega,fun m _ h=>absurd h (by omega),fun h=>by
   have h' : (0:Int)≤-1:=h
   omega,rfl⟩
 | i+1=>by
  have ih:=ends a3 p bs i
  have hp:prd a3 7 i=kp a3 i:=by unfold prd;rw [if_pos rfl]
  by_cases h:kp a3 i=true
  ·rw [Xa h,zh (by rw [hp];exact h)]
   exact QbB ih h
  ·rw [qF h,Qbp (by rw [hp];exact h)]
   exact Qcb ih h
theorem QcT (a3:Int) (p:List Int) (bs:List Nat) (q:Nat):(gp (prd a3 7) q).2=wnt a3 (stt a3 p bs q).1 (stt a3 p bs q).2.1 q:=(ends a3 p bs q).all
theorem Qc7 {n:Nat} (hn:100≤n) {W H:Int} {bs:List Nat} {a2:List D} {a3:Int} {p:List Int} (hf:bs.length≤90) {t10:List D×List D×Int} {F L:Int} {ag re:List D} :
  QS (QR n W H a2 a3 (bs.map ZV) t10 (F,L,(stt a3 p bs (mny bs)).2.2.1.map B,ag,re)) n (0,[])=some ((wnt a3 F L (mny bs)).map nD):=by
 have hm:mny bs≤31:=by unfold mny;omega
 have hl:=(J5 a3 p bs (mny bs)).1
 have h:=ZI (step:=QR n W H a2 a3 (bs.map ZV) t10 (F,L,(stt a3 p bs (mny bs)).2.2.1.map B,ag,re)) (fun (s:List D) (j:Nat)=>(.inl (s++(if pw a3 F L j=true then [nD j] else [])):List D⊕List D)) (fun s=>s) (fun i s=>((i:Int),s)) (List.range (mny bs)) (fun i s=>s.length≤i)
  (fun i s x hx hs=>by
   have hi:=(List.getElem?_eq_some_iff.1 hx).1
   rw [List.length_range] at hi
   rw [List.getElem?_range hi] at hx
   cases hx
   refine ⟨?_,by
    rw [List.length_append]
    split <;> simp <;> omega⟩
   have hnth:(nth ((stt a3 p bs (mny bs)).2.2.1.map B) (Int.toNat (i:Int))).bind un_b=some (kp a3 i):=by
    rw [Int.toNat_natCast,Yj,List.getElem?_map,qG a3 p bs (mny bs) i hi,decide_eq_true hi];rfl
   unfold QR
   dsimp only
   rw [JF,if_pos (by omega),List.length_map,hl,if_pos ⟨by omega,by omega⟩,hnth,Option.bind_some,if_pos (by omega)]
   have hk:(!(kp a3 i == ((IntKind.wrap .u16 (((BitVec.ofInt 16 (Int.fdiv a3 (2 ^ (min (Int.toNat (i:Int)) 16))) &&& BitVec.ofInt 16 1).toNat:Nat):Int)) == 0)))=false:=by
    show (!(kp a3 i == kp a3 i))=false
    rw [beq_self_eq_true];rfl
   rw [hk,if_neg (by decide),show (((i+1:Nat)):Int)=(i:Int)+1 by omega]
   by_cases h:kp a3 i=true
   ·rw [if_pos h,if_pos (by unfold Qa;omega),Qa4 h,if_neg (by decide),List.append_nil]
   ·rw [if_neg h]
    by_cases h1:F < (i:Int)
    ·rw [if_pos h1]
     by_cases h2:(i:Int) < L
     ·rw [if_pos h2,if_pos (by unfold Q5;omega),if_pos (by unfold Qa;omega),if_pos (Qa3 (by simpa using h) h1 h2)]
      rfl
     ·rw [if_neg h2,if_pos (by unfold Qa;omega),wp h2,if_neg (by decide),List.append_nil]
    ·rw [if_neg h1,if_pos (by unfold Qa;omega),Qct h1,if_neg (by decide),List.append_nil])
  (fun s _=>by
   unfold QR
   dsimp only
   rw [JF,List.length_range,if_neg (by omega)]) (k:=n) (s:=[]) (by simp) (by rw [List.length_range];omega)
 have hr:∀ (l:List Nat) (s:List D),VD (fun (s:List D) (j:Nat)=>(.inl (s++(if pw a3 F L j=true then [nD j] else [])):List D⊕List D)) (fun s=>s) l s=s++(l.filter (pw a3 F L)).map nD:=by
  intro l
  induction l with
  | nil=>intro s;simp [VD]
  | cons t l ih =>
   intro s
   show VD _ _ l (s++(if pw a3 F L t=true then [nD t] else []))=_
   rw [ih,List.append_assoc]
   by_cases hp:pw a3 F L t=true
   ·rw [if_pos hp,List.filter_cons_of_pos hp];rfl
   ·rw [if_neg hp,List.filter_cons_of_neg hp];rfl
 rw [hr,List.nil_append] at h
 exact h
theorem Qba {l:List D} (h:0 < l.length):¬ QU l=true:=by
 cases l with
 | nil=>simp at h
 | cons a l=>intro q;cases q
theorem we:∀ (l:List Int),(∀ k,k∈l→-16384≤k∧k≤16384)→-(16384 * (l.length:Int))≤l.sum∧l.sum≤16384 * (l.length:Int)
 | [],_=>⟨by simp,by simp⟩
 | a::l,h=>by
  have ih:=we l fun k hk=>h k (List.mem_cons_of_mem a hk)
  have h0:=h a List.mem_cons_self
  rw [List.sum_cons,List.length_cons]
  omega
theorem uG {bs:List Nat} (hc:∀ b,b∈bs→chk b=0):∀ k,k∈bs.map lev→-16384≤k∧k≤16384:=by
 intro k hk
 obtain ⟨b,hb,rfl⟩:=List.mem_map.1 hk
 exact Vz (hc b hb)
theorem Qb6 {W H:Int} {bs:List Nat} (h:MapOk W H bs):1≤bs.length:=by
 have h1:0 < W * H:=Int.mul_pos (by have:=h.w;omega) (by have:=h.h;omega)
 have:=h.len
 omega
theorem Qb8 {n:Nat} (hn:5000≤n) (W H:Int) (bs:List Nat) (a3:Int):Wc n W H (bs.map QH) a3=some true:=by
 obtain ⟨b,hs,hm⟩:=QaU (n:=n) (by omega) W H bs
 have hring:W4 n=some true:=rfl
 unfold Wc
 rw [hs,Option.bind_some]
 cases b with
 | false=>rw [if_neg (by decide),hring];rfl
 | true =>
  obtain ⟨hok,h36⟩:=hm rfl
  have hc:=hok.chk
  have hpos:=Qb6 hok
  have hm:1≤mny bs∧mny bs≤12:=by unfold mny;omega
  have hpb:=Qaf hc
  have hpl:=yG bs
  obtain ⟨tl1,tl2⟩:=Vp a3 (pad bs) (mny bs)
  have htok:=QaS (a3:=a3) hpb (q:=mny bs) (by omega)
  obtain ⟨al,rl⟩:=XJ a3 bs
  obtain ⟨oka,okr⟩:=QcQ (a3:=a3) hok
  rw [if_pos rfl,Qdb (by omega) hok.few hc,Option.bind_some,if_pos (by rw [List.length_map];unfold Qa;omega),JF,if_pos (by unfold Qa;omega),Qda (by omega) hok.few,Option.bind_some,
   Qc9 (by omega) hpl hpb hok.few,Option.bind_some,if_pos (by rw [WW];unfold Q5;omega),if_neg (Qba (by rw [WW];omega)),kq (by omega) _ htok (by omega)]
  obtain ⟨t10,ht⟩:∃ t,t=((tls a3 (pad bs) (mny bs)).map YI,([]:List D),(0:Int)):=⟨_,rfl⟩
  have q1:t10.1=(tls a3 (pad bs) (mny bs)).map YI:=by rw [ht]
  have q2:t10.2.1=[]:=by rw [ht]
  have q3:t10.2.2=0:=by rw [ht]
  have hinit:((-1:Int),(-1:Int),(0:Int),(List.replicate (Int.toNat (mny bs:Int)) (B false:D)),(List.replicate (Int.toNat (((bs.map QH).length:Nat):Int)) (.v (.float .f32 0):D)),bs.map QH)=stD (stt a3 (pad bs) bs 0) 0:=by
   rw [Int.toNat_natCast,Int.toNat_natCast,List.length_map]
   show _=((-1:Int),(-1:Int),(0:Int),(List.replicate (mny bs) false).map B,(List.replicate bs.length 0).map flD,bs.map flD)
   rw [List.map_replicate,List.map_replicate]
   rfl
  have hlen:(bs.map QH).length=bs.length:=List.length_map _
  rw [← ht,Option.bind_some,if_pos q3,if_neg (by rw [q2];decide),if_pos (by unfold Qa;omega),if_neg (by rw [q1,List.length_map];omega),if_pos ⟨by omega,by omega,by omega,by omega⟩,if_pos ⟨by omega,by omega,by omega,by omega⟩,
   if_pos (by rw [hlen];unfold Q5;omega),hinit,Qc8 (by omega) hlen hpl hpb hok.few q1]
  obtain ⟨t18,hu⟩:∃ t,t=((stt a3 (pad bs) bs (mny bs)).1,(stt a3 (pad bs) bs (mny bs)).2.1,(stt a3 (pad bs) bs (mny bs)).2.2.1.map B,(stt a3 (pad bs) bs (mny bs)).2.2.2.1.map flD,(stt a3 (pad bs) bs (mny bs)).2.2.2.2.map flD):=⟨_,rfl⟩
  have r1:t18.2.2.2.1=(agn a3 bs).map QH:=by rw [hu];rfl
  have r2:t18.2.2.2.2=(rst a3 bs).map QH:=by rw [hu];rfl
  have e5:QS (QR n W H (bs.map QH) a3 (bs.map ZV) t10 t18) n (0,[])=some ((wnt a3 (stt a3 (pad bs) bs (mny bs)).1 (stt a3 (pad bs) bs (mny bs)).2.1 (mny bs)).map nD):=by
   rw [hu]
   exact Qc7 (by omega) hok.few
  have hI:∀ l:List Nat,l.map nD=(l.map fun m:Nat=>(m:Int)).map I:=fun l=>by rw [List.map_map];rfl
  have eS:Zh n ((gp (prd a3 7) (mny bs)).2.map nD) ((wnt a3 (stt a3 (pad bs) bs (mny bs)).1 (stt a3 (pad bs) bs (mny bs)).2.1 (mny bs)).map nD)=some true:=by
   rw [QcT a3 (pad bs) bs (mny bs),hI]
   refine kg (by omega) ?_
   rw [List.length_map]
   unfold wnt
   have:=List.length_filter_le (pw a3 (stt a3 (pad bs) bs (mny bs)).1 (stt a3 (pad bs) bs (mny bs)).2.1) (List.range (mny bs))
   rw [List.length_range] at this
   omega
  have hadd:∀ k,k∈zD (agn a3 bs) (rst a3 bs)→-16384≤k∧k≤16384:=by
   rw [jM hc];exact uG hc
  have eM:Zw n W H (((zD (agn a3 bs) (rst a3 bs)).map smp).map QH) W H (bs.map QH)=some true:=by
   rw [jM hc]
   exact yw (by omega) W H (by rw [List.length_map,List.length_map]) hok.few (yv hc)
  have hsum:=QbW (a3:=a3) hc
  have hsb:=we _ (uG hc)
  rw [List.length_map] at hsb
  rw [← hu,Option.bind_some,e5,Option.bind_some,if_pos (by rw [q1,List.length_map];unfold Q5;omega),if_neg (Qba (by rw [q1,List.length_map];omega)),q1,uF (by omega) (by omega) a3 hpb (.inl rfl),Option.bind_some,
   Qc6 (by omega) (by omega) a3 hpb,Option.bind_some,if_pos (by rw [r1,List.length_map,al];unfold Q5;omega),if_pos (by rw [r2,List.length_map,rl];unfold Q5;omega),r1,r2,QbO (by omega) oka okr hadd,Option.bind_some,
   qE (by omega) oka,Option.bind_some,qE (by omega) okr,Option.bind_some,qE (by omega) hok,Option.bind_some]
  dsimp only
  rw [if_pos (by unfold Qa;omega),if_pos (by unfold Qa;omega),if_pos (by unfold Qa;omega),if_pos (by unfold Qa;omega),if_pos (by unfold Qa;omega),if_pos (by omega),eS,Option.bind_some,if_pos rfl,if_pos (show (([]:List D).length:Int)=0 from rfl),eM,Option.bind_some,if_pos rfl,hsum,if_pos (by unfold Qa;omega),if_pos rfl,hring,Option.bind_some]
theorem Eh (W H:Int) (bs:List Nat) (a3:Int):Wc 5000 W H (bs.map QH) a3=some true:=Qb8 (Nat.le_refl _) W H bs a3
theorem Xp (Ds:List D) (hh:yI [(true,[.int .i64,.int .i64,.lst false [.flt .f32]]),(false,[.int .u16])] Ds):Computes cx 3 Ds (.v (.bool true)):=by
 obtain ⟨d1,l1_,rfl,p1,hh1⟩:=Qa7 hh
 obtain ⟨cs2,rfl,q2⟩:=Qc4 p1
 obtain ⟨d3,r3,rfl,p3,q3⟩:=uy q2
 obtain ⟨a0,rfl,h0⟩:=ok_i p3
 have b0:=Qcw h0
 obtain ⟨d4,r4,rfl,p4,q4⟩:=uy q3
 obtain ⟨a1,rfl,h1⟩:=ok_i p4
 have b1:=Qcw h1
 obtain ⟨d5,r5,rfl,p5,q5⟩:=uy q4
 obtain ⟨es2,rfl,l2,h2⟩:=Qc2 p5
 obtain ⟨a2,rfl,b2⟩:=Qbh (enc:=fun x:Nat=>(.v (.float .f32 x):D)) (p:=fun x:Nat=>(Lit.float .f32 x).wf=true) (es:=es2) (fun e he=>by
  obtain ⟨x,rfl,b⟩:=Qc3 (h2 e he)
  exact ⟨x,rfl,b⟩)
 rw [List.length_map] at l2
 cases Qc1 q5
 obtain ⟨d6,l6_,rfl,p6,hh6⟩:=Qa7 hh1
 obtain ⟨a3,rfl,h3⟩:=ok_i (Qc5 p6)
 have b3:=QcU h3
 cases QcG hh6
 exact GV (Eh a0 a1 a2 a3)
end Go.Proofs.YtchbppgamelchaaDoor

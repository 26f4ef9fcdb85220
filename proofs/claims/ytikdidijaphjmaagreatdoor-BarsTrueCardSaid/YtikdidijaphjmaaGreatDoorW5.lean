/- Part 5 of the proof: models of the functions, and laws on them. -/
import Derived.Test.YtikdidijaphjmaaGreatDoorW4
set_option linter.unusedVariables false
set_option linter.unusedSimpArgs false
set_option linter.unusedSectionVars false
section
namespace Go.Proofs.Tryz
open Go Go.Am
set_option linter.unusedVariables false
set_option maxRecDepth 1000000
noncomputable def Lbars_springs_a (ws z2 : Mo) (w8 wz : Mo) (wx qd ze : Mo) (fuel : Nat) : Lam AV := []
noncomputable def Gbars_springs_a (ws z2 : Mo) (w8 wz : Mo) (wx qd ze : Mo) : Gam := [(38,smM [RS.one (LK.i .i64),RS.one (LK.i .i64),RS.one (LK.i .i64)] ws),(39,smM [RS.agg [LK.f .f64,LK.f .f64],RS.one (LK.f .f64)] z2),(42,smM [RS.agg [LK.f .f64,LK.f .f64]] w8),(41,smM [RS.agg [LK.f .f64,LK.f .f64]] wz),(40,smM [RS.agg [LK.i .i64,LK.i .u8,LK.i .i64,LK.i .i64,LK.i .i64,LK.i .i64,LK.i .i64,LK.i .i64,LK.f .f64,LK.f .f64,LK.f .f64]] wx),(44,smM [RS.one LK.b,RS.one LK.b] qd),(43,smM [RS.agg [LK.i .i64,LK.i .u8,LK.i .i64,LK.i .i64,LK.i .i64,LK.i .i64,LK.i .i64,LK.i .i64,LK.f .f64,LK.f .f64,LK.f .f64]] ze)]
noncomputable def gbars_springs_a (ws z2 : Mo) (w8 wz : Mo) (wx qd ze : Mo) (fuel vw y5 : Nat) (zh : Ge) (v9 yn : Nat) (z1 : Ge) (qjv : ByteArray) (qjt qbv qbw : Int) (qjs qjw : Bool) (qhj qh8 qh9 : Option Nat) : Option AV :=
  ck (decide (0 ≤ qbv)) <| ck (decide (qbv < (↑vw : Int))) <| ck (fitKs [LK.s,LK.i .i32,LK.i .i32,LK.i .u8] [zh qbv.toNat 0,zh qbv.toNat 1,zh qbv.toNat 2,zh qbv.toNat 3]) <| ck (decide (0 ≤ qbw)) <| ck (decide (qbw < (↑vw : Int))) <| ck (fitKs [LK.s,LK.i .i32,LK.i .i32,LK.i .u8] [zh qbw.toNat 0,zh qbw.toNat 1,zh qbw.toNat 2,zh qbw.toNat 3]) <| let r0 : Option AV := ws [AV.agg [AV.str (toS (zh qbv.toNat 0)),AV.int .i32 (toI (zh qbv.toNat 1)),AV.int .i32 (toI (zh qbv.toNat 2)),AV.int .u8 (toI (zh qbv.toNat 3))],AV.agg [AV.str (toS (zh qbw.toNat 0)),AV.int .i32 (toI (zh qbw.toNat 1)),AV.int .i32 (toI (zh qbw.toNat 2)),AV.int .u8 (toI (zh qbw.toNat 3))]]; ck (okM [RS.one (LK.i .i64),RS.one (LK.i .i64),RS.one (LK.i .i64)] r0) <| ck (decide (0 ≤ qbv)) <| ck (decide (qbv < (↑vw : Int))) <| ck (fitKs [LK.s,LK.i .i32,LK.i .i32,LK.i .u8] [zh qbv.toNat 0,zh qbv.toNat 1,zh qbv.toNat 2,zh qbv.toNat 3]) <| ck (decide (0 ≤ qbw)) <| ck (decide (qbw < (↑vw : Int))) <| ck (fitKs [LK.s,LK.i .i32,LK.i .i32,LK.i .u8] [zh qbw.toNat 0,zh qbw.toNat 1,zh qbw.toNat 2,zh qbw.toNat 3]) <| let r1 : Option AV := z2 [AV.agg [AV.str (toS (zh qbv.toNat 0)),AV.int .i32 (toI (zh qbv.toNat 1)),AV.int .i32 (toI (zh qbv.toNat 2)),AV.int .u8 (toI (zh qbv.toNat 3))],AV.agg [AV.str (toS (zh qbw.toNat 0)),AV.int .i32 (toI (zh qbw.toNat 1)),AV.int .i32 (toI (zh qbw.toNat 2)),AV.int .u8 (toI (zh qbw.toNat 3))]]; ck (okM [RS.agg [LK.f .f64,LK.f .f64],RS.one (LK.f .f64)] r1) <| let r2 : Option AV := w8 [AV.flt .f64 qhj]; ck (okM [RS.agg [LK.f .f64,LK.f .f64]] r2) <| let r3 : Option AV := w8 [AV.flt .f64 qh8]; ck (okM [RS.agg [LK.f .f64,LK.f .f64]] r3) <| let r4 : Option AV := wz [AV.ro 2 2 2 fun (i j : Nat) => ([[AV.flt .f64 (toF ((toC (getV r2)).headD .dead)),AV.flt .f64 (toF ((toC (getV r2)).tail.headD .dead))],[AV.flt .f64 (toF ((toC (getV r3)).headD .dead)),AV.flt .f64 (toF ((toC (getV r3)).tail.headD .dead))]].getD i []).getD j AV.dead]; ck (okM [RS.agg [LK.f .f64,LK.f .f64]] r4) <| let r5 : Option AV := w8 [AV.flt .f64 (some (FloatKind.f64.nearest (toI ((toT (getV r0)).tail.tail.headD .dead))))]; ck (okM [RS.agg [LK.f .f64,LK.f .f64]] r5) <| let r6 : Option AV := wz [AV.ro 2 2 2 fun (i j : Nat) => ([[AV.flt .f64 (toF ((toC (getV r5)).headD .dead)),AV.flt .f64 (toF ((toC (getV r5)).tail.headD .dead))],[AV.flt .f64 (toF ((toC ((toT (getV r1)).headD .dead)).headD .dead)),AV.flt .f64 (toF ((toC ((toT (getV r1)).headD .dead)).tail.headD .dead))]].getD i []).getD j AV.dead]; ck (okM [RS.agg [LK.f .f64,LK.f .f64]] r6) <| let r7 : Option AV := wx [AV.int .u8 1,AV.agg [AV.int .i64 (IntKind.i64.wrap (0 - toI ((toT (getV r0)).headD .dead))),AV.int .i64 (IntKind.i64.wrap (0 - toI ((toT (getV r0)).tail.headD .dead))),AV.int .i64 0,AV.int .i64 (toI ((toT (getV r0)).headD .dead)),AV.int .i64 (toI ((toT (getV r0)).tail.headD .dead)),AV.int .i64 0],AV.agg [AV.flt .f64 (toF ((toC (getV r4)).headD .dead)),AV.flt .f64 (toF ((toC (getV r4)).tail.headD .dead))],AV.agg [AV.flt .f64 (toF ((toC (getV r6)).headD .dead)),AV.flt .f64 (toF ((toC (getV r6)).tail.headD .dead))],AV.flt .f64 (farith BinOp.mul .f64 qhj qh8),AV.flt .f64 (farith BinOp.mul .f64 (some (FloatKind.f64.nearest (toI ((toT (getV r0)).tail.tail.headD .dead)))) (toF ((toT (getV r1)).tail.headD .dead)))]; ck (okM [RS.agg [LK.i .i64,LK.i .u8,LK.i .i64,LK.i .i64,LK.i .i64,LK.i .i64,LK.i .i64,LK.i .i64,LK.f .f64,LK.f .f64,LK.f .f64]] r7) <| let r8 : Option AV := qd [AV.agg [AV.str qjv,AV.int .u8 qjt,AV.int .i64 qbv,AV.int .i64 qbw,AV.bool qjs,AV.bool qjw,AV.flt .f64 qhj,AV.flt .f64 qh8,AV.flt .f64 qh9]]; ck (okM [RS.one LK.b,RS.one LK.b] r8) <| bif bif toB ((toT (getV r8)).headD .dead) then toB ((toT (getV r8)).tail.headD .dead) else false then let r9 : Option AV := w8 [AV.flt .f64 qhj]; ck (okM [RS.agg [LK.f .f64,LK.f .f64]] r9) <| let r10 : Option AV := w8 [AV.flt .f64 qh9]; ck (okM [RS.agg [LK.f .f64,LK.f .f64]] r10) <| let r11 : Option AV := wz [AV.ro 2 2 2 fun (i j : Nat) => ([[AV.flt .f64 (toF ((toC (getV r9)).headD .dead)),AV.flt .f64 (toF ((toC (getV r9)).tail.headD .dead))],[AV.flt .f64 (toF ((toC (getV r10)).headD .dead)),AV.flt .f64 (toF ((toC (getV r10)).tail.headD .dead))]].getD i []).getD j AV.dead]; ck (okM [RS.agg [LK.f .f64,LK.f .f64]] r11) <| let r12 : Option AV := wx [AV.int .u8 3,AV.agg [AV.int .i64 0,AV.int .i64 0,AV.int .i64 1,AV.int .i64 0,AV.int .i64 0,AV.int .i64 (-1)],AV.agg [AV.flt .f64 (toF ((toC (getV r11)).headD .dead)),AV.flt .f64 (toF ((toC (getV r11)).tail.headD .dead))],AV.agg [AV.flt .f64 (toF ((toC ((toT (getV r1)).headD .dead)).headD .dead)),AV.flt .f64 (toF ((toC ((toT (getV r1)).headD .dead)).tail.headD .dead))],AV.flt .f64 (farith BinOp.mul .f64 qhj qh9),AV.flt .f64 (toF ((toT (getV r1)).tail.headD .dead))]; ck (okM [RS.agg [LK.i .i64,LK.i .u8,LK.i .i64,LK.i .i64,LK.i .i64,LK.i .i64,LK.i .i64,LK.i .i64,LK.f .f64,LK.f .f64,LK.f .f64]] r12) <| let r13 : Option AV := ze [AV.int .u8 2,AV.agg [AV.int .i64 (IntKind.i64.wrap ((-2) * toI ((toT (getV r0)).tail.headD .dead))),AV.int .i64 (IntKind.i64.wrap (2 * toI ((toT (getV r0)).headD .dead))),AV.int .i64 (toI ((toT (getV r0)).tail.tail.headD .dead)),AV.int .i64 (IntKind.i64.wrap (2 * toI ((toT (getV r0)).tail.headD .dead))),AV.int .i64 (IntKind.i64.wrap ((-2) * toI ((toT (getV r0)).headD .dead))),AV.int .i64 (toI ((toT (getV r0)).tail.tail.headD .dead))],AV.rp ([AV.str qjv,AV.int .u8 qjt,AV.int .i64 qbv,AV.int .i64 qbw,AV.bool qjs,AV.bool qjw,AV.flt .f64 qhj,AV.flt .f64 qh8,AV.flt .f64 qh9].length - 0) fun (j : Nat) => [AV.str qjv,AV.int .u8 qjt,AV.int .i64 qbv,AV.int .i64 qbw,AV.bool qjs,AV.bool qjw,AV.flt .f64 qhj,AV.flt .f64 qh8,AV.flt .f64 qh9].getD (0 + j) AV.dead,AV.rp ([AV.flt .f64 (some (FloatKind.f64.nearest (toI ((toT (getV r0)).tail.tail.headD .dead))))].length - 0) fun (j : Nat) => [AV.flt .f64 (some (FloatKind.f64.nearest (toI ((toT (getV r0)).tail.tail.headD .dead))))].getD (0 + j) AV.dead,AV.rp ([AV.flt .f64 (toF ((toC ((toT (getV r1)).headD .dead)).headD .dead)),AV.flt .f64 (toF ((toC ((toT (getV r1)).headD .dead)).tail.headD .dead))].length - 0) fun (j : Nat) => [AV.flt .f64 (toF ((toC ((toT (getV r1)).headD .dead)).headD .dead)),AV.flt .f64 (toF ((toC ((toT (getV r1)).headD .dead)).tail.headD .dead))].getD (0 + j) AV.dead,AV.rp ([AV.flt .f64 (toF ((toT (getV r1)).tail.headD .dead))].length - 0) fun (j : Nat) => [AV.flt .f64 (toF ((toT (getV r1)).tail.headD .dead))].getD (0 + j) AV.dead]; ck (okM [RS.agg [LK.i .i64,LK.i .u8,LK.i .i64,LK.i .i64,LK.i .i64,LK.i .i64,LK.i .i64,LK.i .i64,LK.f .f64,LK.f .f64,LK.f .f64]] r13) <| some (AV.tup [AV.ro 11 [[AV.int .i64 (toI ((toC (getV r7)).headD .dead)),AV.int .u8 (toI ((toC (getV r7)).tail.headD .dead)),AV.int .i64 (toI ((toC (getV r7)).tail.tail.headD .dead)),AV.int .i64 (toI ((toC (getV r7)).tail.tail.tail.headD .dead)),AV.int .i64 (toI ((toC (getV r7)).tail.tail.tail.tail.headD .dead)),AV.int .i64 (toI ((toC (getV r7)).tail.tail.tail.tail.tail.headD .dead)),AV.int .i64 (toI ((toC (getV r7)).tail.tail.tail.tail.tail.tail.headD .dead)),AV.int .i64 (toI ((toC (getV r7)).tail.tail.tail.tail.tail.tail.tail.headD .dead)),AV.flt .f64 (toF ((toC (getV r7)).tail.tail.tail.tail.tail.tail.tail.tail.headD .dead)),AV.flt .f64 (toF ((toC (getV r7)).tail.tail.tail.tail.tail.tail.tail.tail.tail.headD .dead)),AV.flt .f64 (toF ((toC (getV r7)).tail.tail.tail.tail.tail.tail.tail.tail.tail.tail.headD .dead))],[AV.int .i64 (toI ((toC (getV r13)).headD .dead)),AV.int .u8 (toI ((toC (getV r13)).tail.headD .dead)),AV.int .i64 (toI ((toC (getV r13)).tail.tail.headD .dead)),AV.int .i64 (toI ((toC (getV r13)).tail.tail.tail.headD .dead)),AV.int .i64 (toI ((toC (getV r13)).tail.tail.tail.tail.headD .dead)),AV.int .i64 (toI ((toC (getV r13)).tail.tail.tail.tail.tail.headD .dead)),AV.int .i64 (toI ((toC (getV r13)).tail.tail.tail.tail.tail.tail.headD .dead)),AV.int .i64 (toI ((toC (getV r13)).tail.tail.tail.tail.tail.tail.tail.headD .dead)),AV.flt .f64 (toF ((toC (getV r13)).tail.tail.tail.tail.tail.tail.tail.tail.headD .dead)),AV.flt .f64 (toF ((toC (getV r13)).tail.tail.tail.tail.tail.tail.tail.tail.tail.headD .dead)),AV.flt .f64 (toF ((toC (getV r13)).tail.tail.tail.tail.tail.tail.tail.tail.tail.tail.headD .dead))],[AV.int .i64 (toI ((toC (getV r12)).headD .dead)),AV.int .u8 (toI ((toC (getV r12)).tail.headD .dead)),AV.int .i64 (toI ((toC (getV r12)).tail.tail.headD .dead)),AV.int .i64 (toI ((toC (getV r12)).tail.tail.tail.headD .dead)),AV.int .i64 (toI ((toC (getV r12)).tail.tail.tail.tail.headD .dead)),AV.int .i64 (toI ((toC (getV r12)).tail.tail.tail.tail.tail.headD .dead)),AV.int .i64 (toI ((toC (getV r12)).tail.tail.tail.tail.tail.tail.headD .dead)),AV.int .i64 (toI ((toC (getV r12)).tail.tail.tail.tail.tail.tail.tail.headD .dead)),AV.flt .f64 (toF ((toC (getV r12)).tail.tail.tail.tail.tail.tail.tail.tail.headD .dead)),AV.flt .f64 (toF ((toC (getV r12)).tail.tail.tail.tail.tail.tail.tail.tail.tail.headD .dead)),AV.flt .f64 (toF ((toC (getV r12)).tail.tail.tail.tail.tail.tail.tail.tail.tail.tail.headD .dead))]].length [[AV.int .i64 (toI ((toC (getV r7)).headD .dead)),AV.int .u8 (toI ((toC (getV r7)).tail.headD .dead)),AV.int .i64 (toI ((toC (getV r7)).tail.tail.headD .dead)),AV.int .i64 (toI ((toC (getV r7)).tail.tail.tail.headD .dead)),AV.int .i64 (toI ((toC (getV r7)).tail.tail.tail.tail.headD .dead)),AV.int .i64 (toI ((toC (getV r7)).tail.tail.tail.tail.tail.headD .dead)),AV.int .i64 (toI ((toC (getV r7)).tail.tail.tail.tail.tail.tail.headD .dead)),AV.int .i64 (toI ((toC (getV r7)).tail.tail.tail.tail.tail.tail.tail.headD .dead)),AV.flt .f64 (toF ((toC (getV r7)).tail.tail.tail.tail.tail.tail.tail.tail.headD .dead)),AV.flt .f64 (toF ((toC (getV r7)).tail.tail.tail.tail.tail.tail.tail.tail.tail.headD .dead)),AV.flt .f64 (toF ((toC (getV r7)).tail.tail.tail.tail.tail.tail.tail.tail.tail.tail.headD .dead))],[AV.int .i64 (toI ((toC (getV r13)).headD .dead)),AV.int .u8 (toI ((toC (getV r13)).tail.headD .dead)),AV.int .i64 (toI ((toC (getV r13)).tail.tail.headD .dead)),AV.int .i64 (toI ((toC (getV r13)).tail.tail.tail.headD .dead)),AV.int .i64 (toI ((toC (getV r13)).tail.tail.tail.tail.headD .dead)),AV.int .i64 (toI ((toC (getV r13)).tail.tail.tail.tail.tail.headD .dead)),AV.int .i64 (toI ((toC (getV r13)).tail.tail.tail.tail.tail.tail.headD .dead)),AV.int .i64 (toI ((toC (getV r13)).tail.tail.tail.tail.tail.tail.tail.headD .dead)),AV.flt .f64 (toF ((toC (getV r13)).tail.tail.tail.tail.tail.tail.tail.tail.headD .dead)),AV.flt .f64 (toF ((toC (getV r13)).tail.tail.tail.tail.tail.tail.tail.tail.tail.headD .dead)),AV.flt .f64 (toF ((toC (getV r13)).tail.tail.tail.tail.tail.tail.tail.tail.tail.tail.headD .dead))],[AV.int .i64 (toI ((toC (getV r12)).headD .dead)),AV.int .u8 (toI ((toC (getV r12)).tail.headD .dead)),AV.int .i64 (toI ((toC (getV r12)).tail.tail.headD .dead)),AV.int .i64 (toI ((toC (getV r12)).tail.tail.tail.headD .dead)),AV.int .i64 (toI ((toC (getV r12)).tail.tail.tail.tail.headD .dead)),AV.int .i64 (toI ((toC (getV r12)).tail.tail.tail.tail.tail.headD .dead)),AV.int .i64 (toI ((toC (getV r12)).tail.tail.tail.tail.tail.tail.headD .dead)),AV.int .i64 (toI ((toC (getV r12)).tail.tail.tail.tail.tail.tail.tail.headD .dead)),AV.flt .f64 (toF ((toC (getV r12)).tail.tail.tail.tail.tail.tail.tail.tail.headD .dead)),AV.flt .f64 (toF ((toC (getV r12)).tail.tail.tail.tail.tail.tail.tail.tail.tail.headD .dead)),AV.flt .f64 (toF ((toC (getV r12)).tail.tail.tail.tail.tail.tail.tail.tail.tail.tail.headD .dead))]].length fun (i j : Nat) => ([[AV.int .i64 (toI ((toC (getV r7)).headD .dead)),AV.int .u8 (toI ((toC (getV r7)).tail.headD .dead)),AV.int .i64 (toI ((toC (getV r7)).tail.tail.headD .dead)),AV.int .i64 (toI ((toC (getV r7)).tail.tail.tail.headD .dead)),AV.int .i64 (toI ((toC (getV r7)).tail.tail.tail.tail.headD .dead)),AV.int .i64 (toI ((toC (getV r7)).tail.tail.tail.tail.tail.headD .dead)),AV.int .i64 (toI ((toC (getV r7)).tail.tail.tail.tail.tail.tail.headD .dead)),AV.int .i64 (toI ((toC (getV r7)).tail.tail.tail.tail.tail.tail.tail.headD .dead)),AV.flt .f64 (toF ((toC (getV r7)).tail.tail.tail.tail.tail.tail.tail.tail.headD .dead)),AV.flt .f64 (toF ((toC (getV r7)).tail.tail.tail.tail.tail.tail.tail.tail.tail.headD .dead)),AV.flt .f64 (toF ((toC (getV r7)).tail.tail.tail.tail.tail.tail.tail.tail.tail.tail.headD .dead))],[AV.int .i64 (toI ((toC (getV r13)).headD .dead)),AV.int .u8 (toI ((toC (getV r13)).tail.headD .dead)),AV.int .i64 (toI ((toC (getV r13)).tail.tail.headD .dead)),AV.int .i64 (toI ((toC (getV r13)).tail.tail.tail.headD .dead)),AV.int .i64 (toI ((toC (getV r13)).tail.tail.tail.tail.headD .dead)),AV.int .i64 (toI ((toC (getV r13)).tail.tail.tail.tail.tail.headD .dead)),AV.int .i64 (toI ((toC (getV r13)).tail.tail.tail.tail.tail.tail.headD .dead)),AV.int .i64 (toI ((toC (getV r13)).tail.tail.tail.tail.tail.tail.tail.headD .dead)),AV.flt .f64 (toF ((toC (getV r13)).tail.tail.tail.tail.tail.tail.tail.tail.headD .dead)),AV.flt .f64 (toF ((toC (getV r13)).tail.tail.tail.tail.tail.tail.tail.tail.tail.headD .dead)),AV.flt .f64 (toF ((toC (getV r13)).tail.tail.tail.tail.tail.tail.tail.tail.tail.tail.headD .dead))],[AV.int .i64 (toI ((toC (getV r12)).headD .dead)),AV.int .u8 (toI ((toC (getV r12)).tail.headD .dead)),AV.int .i64 (toI ((toC (getV r12)).tail.tail.headD .dead)),AV.int .i64 (toI ((toC (getV r12)).tail.tail.tail.headD .dead)),AV.int .i64 (toI ((toC (getV r12)).tail.tail.tail.tail.headD .dead)),AV.int .i64 (toI ((toC (getV r12)).tail.tail.tail.tail.tail.headD .dead)),AV.int .i64 (toI ((toC (getV r12)).tail.tail.tail.tail.tail.tail.headD .dead)),AV.int .i64 (toI ((toC (getV r12)).tail.tail.tail.tail.tail.tail.tail.headD .dead)),AV.flt .f64 (toF ((toC (getV r12)).tail.tail.tail.tail.tail.tail.tail.tail.headD .dead)),AV.flt .f64 (toF ((toC (getV r12)).tail.tail.tail.tail.tail.tail.tail.tail.tail.headD .dead)),AV.flt .f64 (toF ((toC (getV r12)).tail.tail.tail.tail.tail.tail.tail.tail.tail.tail.headD .dead))]].getD i []).getD j AV.dead])
  else bif toB ((toT (getV r8)).headD .dead) then let r14 : Option AV := ze [AV.int .u8 4,AV.agg [AV.int .i64 (IntKind.i64.wrap (0 - toI ((toT (getV r0)).tail.headD .dead))),AV.int .i64 (toI ((toT (getV r0)).headD .dead)),AV.int .i64 (toI ((toT (getV r0)).tail.tail.headD .dead)),AV.int .i64 (toI ((toT (getV r0)).tail.headD .dead)),AV.int .i64 (IntKind.i64.wrap (0 - toI ((toT (getV r0)).headD .dead))),AV.int .i64 0],AV.rp ([AV.str qjv,AV.int .u8 qjt,AV.int .i64 qbv,AV.int .i64 qbw,AV.bool qjs,AV.bool qjw,AV.flt .f64 qhj,AV.flt .f64 qh8,AV.flt .f64 qh9].length - 0) fun (j : Nat) => [AV.str qjv,AV.int .u8 qjt,AV.int .i64 qbv,AV.int .i64 qbw,AV.bool qjs,AV.bool qjw,AV.flt .f64 qhj,AV.flt .f64 qh8,AV.flt .f64 qh9].getD (0 + j) AV.dead,AV.rp ([AV.flt .f64 (some (FloatKind.f64.nearest (toI ((toT (getV r0)).tail.tail.headD .dead))))].length - 0) fun (j : Nat) => [AV.flt .f64 (some (FloatKind.f64.nearest (toI ((toT (getV r0)).tail.tail.headD .dead))))].getD (0 + j) AV.dead,AV.rp ([AV.flt .f64 (toF ((toC ((toT (getV r1)).headD .dead)).headD .dead)),AV.flt .f64 (toF ((toC ((toT (getV r1)).headD .dead)).tail.headD .dead))].length - 0) fun (j : Nat) => [AV.flt .f64 (toF ((toC ((toT (getV r1)).headD .dead)).headD .dead)),AV.flt .f64 (toF ((toC ((toT (getV r1)).headD .dead)).tail.headD .dead))].getD (0 + j) AV.dead,AV.rp ([AV.flt .f64 (toF ((toT (getV r1)).tail.headD .dead))].length - 0) fun (j : Nat) => [AV.flt .f64 (toF ((toT (getV r1)).tail.headD .dead))].getD (0 + j) AV.dead]; ck (okM [RS.agg [LK.i .i64,LK.i .u8,LK.i .i64,LK.i .i64,LK.i .i64,LK.i .i64,LK.i .i64,LK.i .i64,LK.f .f64,LK.f .f64,LK.f .f64]] r14) <| some (AV.tup [AV.ro 11 [[AV.int .i64 (toI ((toC (getV r7)).headD .dead)),AV.int .u8 (toI ((toC (getV r7)).tail.headD .dead)),AV.int .i64 (toI ((toC (getV r7)).tail.tail.headD .dead)),AV.int .i64 (toI ((toC (getV r7)).tail.tail.tail.headD .dead)),AV.int .i64 (toI ((toC (getV r7)).tail.tail.tail.tail.headD .dead)),AV.int .i64 (toI ((toC (getV r7)).tail.tail.tail.tail.tail.headD .dead)),AV.int .i64 (toI ((toC (getV r7)).tail.tail.tail.tail.tail.tail.headD .dead)),AV.int .i64 (toI ((toC (getV r7)).tail.tail.tail.tail.tail.tail.tail.headD .dead)),AV.flt .f64 (toF ((toC (getV r7)).tail.tail.tail.tail.tail.tail.tail.tail.headD .dead)),AV.flt .f64 (toF ((toC (getV r7)).tail.tail.tail.tail.tail.tail.tail.tail.tail.headD .dead)),AV.flt .f64 (toF ((toC (getV r7)).tail.tail.tail.tail.tail.tail.tail.tail.tail.tail.headD .dead))],[AV.int .i64 (toI ((toC (getV r14)).headD .dead)),AV.int .u8 (toI ((toC (getV r14)).tail.headD .dead)),AV.int .i64 (toI ((toC (getV r14)).tail.tail.headD .dead)),AV.int .i64 (toI ((toC (getV r14)).tail.tail.tail.headD .dead)),AV.int .i64 (toI ((toC (getV r14)).tail.tail.tail.tail.headD .dead)),AV.int .i64 (toI ((toC (getV r14)).tail.tail.tail.tail.tail.headD .dead)),AV.int .i64 (toI ((toC (getV r14)).tail.tail.tail.tail.tail.tail.headD .dead)),AV.int .i64 (toI ((toC (getV r14)).tail.tail.tail.tail.tail.tail.tail.headD .dead)),AV.flt .f64 (toF ((toC (getV r14)).tail.tail.tail.tail.tail.tail.tail.tail.headD .dead)),AV.flt .f64 (toF ((toC (getV r14)).tail.tail.tail.tail.tail.tail.tail.tail.tail.headD .dead)),AV.flt .f64 (toF ((toC (getV r14)).tail.tail.tail.tail.tail.tail.tail.tail.tail.tail.headD .dead))]].length [[AV.int .i64 (toI ((toC (getV r7)).headD .dead)),AV.int .u8 (toI ((toC (getV r7)).tail.headD .dead)),AV.int .i64 (toI ((toC (getV r7)).tail.tail.headD .dead)),AV.int .i64 (toI ((toC (getV r7)).tail.tail.tail.headD .dead)),AV.int .i64 (toI ((toC (getV r7)).tail.tail.tail.tail.headD .dead)),AV.int .i64 (toI ((toC (getV r7)).tail.tail.tail.tail.tail.headD .dead)),AV.int .i64 (toI ((toC (getV r7)).tail.tail.tail.tail.tail.tail.headD .dead)),AV.int .i64 (toI ((toC (getV r7)).tail.tail.tail.tail.tail.tail.tail.headD .dead)),AV.flt .f64 (toF ((toC (getV r7)).tail.tail.tail.tail.tail.tail.tail.tail.headD .dead)),AV.flt .f64 (toF ((toC (getV r7)).tail.tail.tail.tail.tail.tail.tail.tail.tail.headD .dead)),AV.flt .f64 (toF ((toC (getV r7)).tail.tail.tail.tail.tail.tail.tail.tail.tail.tail.headD .dead))],[AV.int .i64 (toI ((toC (getV r14)).headD .dead)),AV.int .u8 (toI ((toC (getV r14)).tail.headD .dead)),AV.int .i64 (toI ((toC (getV r14)).tail.tail.headD .dead)),AV.int .i64 (toI ((toC (getV r14)).tail.tail.tail.headD .dead)),AV.int .i64 (toI ((toC (getV r14)).tail.tail.tail.tail.headD .dead)),AV.int .i64 (toI ((toC (getV r14)).tail.tail.tail.tail.tail.headD .dead)),AV.int .i64 (toI ((toC (getV r14)).tail.tail.tail.tail.tail.tail.headD .dead)),AV.int .i64 (toI ((toC (getV r14)).tail.tail.tail.tail.tail.tail.tail.headD .dead)),AV.flt .f64 (toF ((toC (getV r14)).tail.tail.tail.tail.tail.tail.tail.tail.headD .dead)),AV.flt .f64 (toF ((toC (getV r14)).tail.tail.tail.tail.tail.tail.tail.tail.tail.headD .dead)),AV.flt .f64 (toF ((toC (getV r14)).tail.tail.tail.tail.tail.tail.tail.tail.tail.tail.headD .dead))]].length fun (i j : Nat) => ([[AV.int .i64 (toI ((toC (getV r7)).headD .dead)),AV.int .u8 (toI ((toC (getV r7)).tail.headD .dead)),AV.int .i64 (toI ((toC (getV r7)).tail.tail.headD .dead)),AV.int .i64 (toI ((toC (getV r7)).tail.tail.tail.headD .dead)),AV.int .i64 (toI ((toC (getV r7)).tail.tail.tail.tail.headD .dead)),AV.int .i64 (toI ((toC (getV r7)).tail.tail.tail.tail.tail.headD .dead)),AV.int .i64 (toI ((toC (getV r7)).tail.tail.tail.tail.tail.tail.headD .dead)),AV.int .i64 (toI ((toC (getV r7)).tail.tail.tail.tail.tail.tail.tail.headD .dead)),AV.flt .f64 (toF ((toC (getV r7)).tail.tail.tail.tail.tail.tail.tail.tail.headD .dead)),AV.flt .f64 (toF ((toC (getV r7)).tail.tail.tail.tail.tail.tail.tail.tail.tail.headD .dead)),AV.flt .f64 (toF ((toC (getV r7)).tail.tail.tail.tail.tail.tail.tail.tail.tail.tail.headD .dead))],[AV.int .i64 (toI ((toC (getV r14)).headD .dead)),AV.int .u8 (toI ((toC (getV r14)).tail.headD .dead)),AV.int .i64 (toI ((toC (getV r14)).tail.tail.headD .dead)),AV.int .i64 (toI ((toC (getV r14)).tail.tail.tail.headD .dead)),AV.int .i64 (toI ((toC (getV r14)).tail.tail.tail.tail.headD .dead)),AV.int .i64 (toI ((toC (getV r14)).tail.tail.tail.tail.tail.headD .dead)),AV.int .i64 (toI ((toC (getV r14)).tail.tail.tail.tail.tail.tail.headD .dead)),AV.int .i64 (toI ((toC (getV r14)).tail.tail.tail.tail.tail.tail.tail.headD .dead)),AV.flt .f64 (toF ((toC (getV r14)).tail.tail.tail.tail.tail.tail.tail.tail.headD .dead)),AV.flt .f64 (toF ((toC (getV r14)).tail.tail.tail.tail.tail.tail.tail.tail.tail.headD .dead)),AV.flt .f64 (toF ((toC (getV r14)).tail.tail.tail.tail.tail.tail.tail.tail.tail.tail.headD .dead))]].getD i []).getD j AV.dead])
  else bif toB ((toT (getV r8)).tail.headD .dead) then let r15 : Option AV := ze [AV.int .u8 4,AV.agg [AV.int .i64 (IntKind.i64.wrap (0 - toI ((toT (getV r0)).tail.headD .dead))),AV.int .i64 (toI ((toT (getV r0)).headD .dead)),AV.int .i64 0,AV.int .i64 (toI ((toT (getV r0)).tail.headD .dead)),AV.int .i64 (IntKind.i64.wrap (0 - toI ((toT (getV r0)).headD .dead))),AV.int .i64 (toI ((toT (getV r0)).tail.tail.headD .dead))],AV.rp ([AV.str qjv,AV.int .u8 qjt,AV.int .i64 qbv,AV.int .i64 qbw,AV.bool qjs,AV.bool qjw,AV.flt .f64 qhj,AV.flt .f64 qh8,AV.flt .f64 qh9].length - 0) fun (j : Nat) => [AV.str qjv,AV.int .u8 qjt,AV.int .i64 qbv,AV.int .i64 qbw,AV.bool qjs,AV.bool qjw,AV.flt .f64 qhj,AV.flt .f64 qh8,AV.flt .f64 qh9].getD (0 + j) AV.dead,AV.rp ([AV.flt .f64 (some (FloatKind.f64.nearest (toI ((toT (getV r0)).tail.tail.headD .dead))))].length - 0) fun (j : Nat) => [AV.flt .f64 (some (FloatKind.f64.nearest (toI ((toT (getV r0)).tail.tail.headD .dead))))].getD (0 + j) AV.dead,AV.rp ([AV.flt .f64 (toF ((toC ((toT (getV r1)).headD .dead)).headD .dead)),AV.flt .f64 (toF ((toC ((toT (getV r1)).headD .dead)).tail.headD .dead))].length - 0) fun (j : Nat) => [AV.flt .f64 (toF ((toC ((toT (getV r1)).headD .dead)).headD .dead)),AV.flt .f64 (toF ((toC ((toT (getV r1)).headD .dead)).tail.headD .dead))].getD (0 + j) AV.dead,AV.rp ([AV.flt .f64 (toF ((toT (getV r1)).tail.headD .dead))].length - 0) fun (j : Nat) => [AV.flt .f64 (toF ((toT (getV r1)).tail.headD .dead))].getD (0 + j) AV.dead]; ck (okM [RS.agg [LK.i .i64,LK.i .u8,LK.i .i64,LK.i .i64,LK.i .i64,LK.i .i64,LK.i .i64,LK.i .i64,LK.f .f64,LK.f .f64,LK.f .f64]] r15) <| some (AV.tup [AV.ro 11 [[AV.int .i64 (toI ((toC (getV r7)).headD .dead)),AV.int .u8 (toI ((toC (getV r7)).tail.headD .dead)),AV.int .i64 (toI ((toC (getV r7)).tail.tail.headD .dead)),AV.int .i64 (toI ((toC (getV r7)).tail.tail.tail.headD .dead)),AV.int .i64 (toI ((toC (getV r7)).tail.tail.tail.tail.headD .dead)),AV.int .i64 (toI ((toC (getV r7)).tail.tail.tail.tail.tail.headD .dead)),AV.int .i64 (toI ((toC (getV r7)).tail.tail.tail.tail.tail.tail.headD .dead)),AV.int .i64 (toI ((toC (getV r7)).tail.tail.tail.tail.tail.tail.tail.headD .dead)),AV.flt .f64 (toF ((toC (getV r7)).tail.tail.tail.tail.tail.tail.tail.tail.headD .dead)),AV.flt .f64 (toF ((toC (getV r7)).tail.tail.tail.tail.tail.tail.tail.tail.tail.headD .dead)),AV.flt .f64 (toF ((toC (getV r7)).tail.tail.tail.tail.tail.tail.tail.tail.tail.tail.headD .dead))],[AV.int .i64 (toI ((toC (getV r15)).headD .dead)),AV.int .u8 (toI ((toC (getV r15)).tail.headD .dead)),AV.int .i64 (toI ((toC (getV r15)).tail.tail.headD .dead)),AV.int .i64 (toI ((toC (getV r15)).tail.tail.tail.headD .dead)),AV.int .i64 (toI ((toC (getV r15)).tail.tail.tail.tail.headD .dead)),AV.int .i64 (toI ((toC (getV r15)).tail.tail.tail.tail.tail.headD .dead)),AV.int .i64 (toI ((toC (getV r15)).tail.tail.tail.tail.tail.tail.headD .dead)),AV.int .i64 (toI ((toC (getV r15)).tail.tail.tail.tail.tail.tail.tail.headD .dead)),AV.flt .f64 (toF ((toC (getV r15)).tail.tail.tail.tail.tail.tail.tail.tail.headD .dead)),AV.flt .f64 (toF ((toC (getV r15)).tail.tail.tail.tail.tail.tail.tail.tail.tail.headD .dead)),AV.flt .f64 (toF ((toC (getV r15)).tail.tail.tail.tail.tail.tail.tail.tail.tail.tail.headD .dead))]].length [[AV.int .i64 (toI ((toC (getV r7)).headD .dead)),AV.int .u8 (toI ((toC (getV r7)).tail.headD .dead)),AV.int .i64 (toI ((toC (getV r7)).tail.tail.headD .dead)),AV.int .i64 (toI ((toC (getV r7)).tail.tail.tail.headD .dead)),AV.int .i64 (toI ((toC (getV r7)).tail.tail.tail.tail.headD .dead)),AV.int .i64 (toI ((toC (getV r7)).tail.tail.tail.tail.tail.headD .dead)),AV.int .i64 (toI ((toC (getV r7)).tail.tail.tail.tail.tail.tail.headD .dead)),AV.int .i64 (toI ((toC (getV r7)).tail.tail.tail.tail.tail.tail.tail.headD .dead)),AV.flt .f64 (toF ((toC (getV r7)).tail.tail.tail.tail.tail.tail.tail.tail.headD .dead)),AV.flt .f64 (toF ((toC (getV r7)).tail.tail.tail.tail.tail.tail.tail.tail.tail.headD .dead)),AV.flt .f64 (toF ((toC (getV r7)).tail.tail.tail.tail.tail.tail.tail.tail.tail.tail.headD .dead))],[AV.int .i64 (toI ((toC (getV r15)).headD .dead)),AV.int .u8 (toI ((toC (getV r15)).tail.headD .dead)),AV.int .i64 (toI ((toC (getV r15)).tail.tail.headD .dead)),AV.int .i64 (toI ((toC (getV r15)).tail.tail.tail.headD .dead)),AV.int .i64 (toI ((toC (getV r15)).tail.tail.tail.tail.headD .dead)),AV.int .i64 (toI ((toC (getV r15)).tail.tail.tail.tail.tail.headD .dead)),AV.int .i64 (toI ((toC (getV r15)).tail.tail.tail.tail.tail.tail.headD .dead)),AV.int .i64 (toI ((toC (getV r15)).tail.tail.tail.tail.tail.tail.tail.headD .dead)),AV.flt .f64 (toF ((toC (getV r15)).tail.tail.tail.tail.tail.tail.tail.tail.headD .dead)),AV.flt .f64 (toF ((toC (getV r15)).tail.tail.tail.tail.tail.tail.tail.tail.tail.headD .dead)),AV.flt .f64 (toF ((toC (getV r15)).tail.tail.tail.tail.tail.tail.tail.tail.tail.tail.headD .dead))]].length fun (i j : Nat) => ([[AV.int .i64 (toI ((toC (getV r7)).headD .dead)),AV.int .u8 (toI ((toC (getV r7)).tail.headD .dead)),AV.int .i64 (toI ((toC (getV r7)).tail.tail.headD .dead)),AV.int .i64 (toI ((toC (getV r7)).tail.tail.tail.headD .dead)),AV.int .i64 (toI ((toC (getV r7)).tail.tail.tail.tail.headD .dead)),AV.int .i64 (toI ((toC (getV r7)).tail.tail.tail.tail.tail.headD .dead)),AV.int .i64 (toI ((toC (getV r7)).tail.tail.tail.tail.tail.tail.headD .dead)),AV.int .i64 (toI ((toC (getV r7)).tail.tail.tail.tail.tail.tail.tail.headD .dead)),AV.flt .f64 (toF ((toC (getV r7)).tail.tail.tail.tail.tail.tail.tail.tail.headD .dead)),AV.flt .f64 (toF ((toC (getV r7)).tail.tail.tail.tail.tail.tail.tail.tail.tail.headD .dead)),AV.flt .f64 (toF ((toC (getV r7)).tail.tail.tail.tail.tail.tail.tail.tail.tail.tail.headD .dead))],[AV.int .i64 (toI ((toC (getV r15)).headD .dead)),AV.int .u8 (toI ((toC (getV r15)).tail.headD .dead)),AV.int .i64 (toI ((toC (getV r15)).tail.tail.headD .dead)),AV.int .i64 (toI ((toC (getV r15)).tail.tail.tail.headD .dead)),AV.int .i64 (toI ((toC (getV r15)).tail.tail.tail.tail.headD .dead)),AV.int .i64 (toI ((toC (getV r15)).tail.tail.tail.tail.tail.headD .dead)),AV.int .i64 (toI ((toC (getV r15)).tail.tail.tail.tail.tail.tail.headD .dead)),AV.int .i64 (toI ((toC (getV r15)).tail.tail.tail.tail.tail.tail.tail.headD .dead)),AV.flt .f64 (toF ((toC (getV r15)).tail.tail.tail.tail.tail.tail.tail.tail.headD .dead)),AV.flt .f64 (toF ((toC (getV r15)).tail.tail.tail.tail.tail.tail.tail.tail.tail.headD .dead)),AV.flt .f64 (toF ((toC (getV r15)).tail.tail.tail.tail.tail.tail.tail.tail.tail.tail.headD .dead))]].getD i []).getD j AV.dead])
  else some (AV.tup [AV.ro 11 [[AV.int .i64 (toI ((toC (getV r7)).headD .dead)),AV.int .u8 (toI ((toC (getV r7)).tail.headD .dead)),AV.int .i64 (toI ((toC (getV r7)).tail.tail.headD .dead)),AV.int .i64 (toI ((toC (getV r7)).tail.tail.tail.headD .dead)),AV.int .i64 (toI ((toC (getV r7)).tail.tail.tail.tail.headD .dead)),AV.int .i64 (toI ((toC (getV r7)).tail.tail.tail.tail.tail.headD .dead)),AV.int .i64 (toI ((toC (getV r7)).tail.tail.tail.tail.tail.tail.headD .dead)),AV.int .i64 (toI ((toC (getV r7)).tail.tail.tail.tail.tail.tail.tail.headD .dead)),AV.flt .f64 (toF ((toC (getV r7)).tail.tail.tail.tail.tail.tail.tail.tail.headD .dead)),AV.flt .f64 (toF ((toC (getV r7)).tail.tail.tail.tail.tail.tail.tail.tail.tail.headD .dead)),AV.flt .f64 (toF ((toC (getV r7)).tail.tail.tail.tail.tail.tail.tail.tail.tail.tail.headD .dead))]].length [[AV.int .i64 (toI ((toC (getV r7)).headD .dead)),AV.int .u8 (toI ((toC (getV r7)).tail.headD .dead)),AV.int .i64 (toI ((toC (getV r7)).tail.tail.headD .dead)),AV.int .i64 (toI ((toC (getV r7)).tail.tail.tail.headD .dead)),AV.int .i64 (toI ((toC (getV r7)).tail.tail.tail.tail.headD .dead)),AV.int .i64 (toI ((toC (getV r7)).tail.tail.tail.tail.tail.headD .dead)),AV.int .i64 (toI ((toC (getV r7)).tail.tail.tail.tail.tail.tail.headD .dead)),AV.int .i64 (toI ((toC (getV r7)).tail.tail.tail.tail.tail.tail.tail.headD .dead)),AV.flt .f64 (toF ((toC (getV r7)).tail.tail.tail.tail.tail.tail.tail.tail.headD .dead)),AV.flt .f64 (toF ((toC (getV r7)).tail.tail.tail.tail.tail.tail.tail.tail.tail.headD .dead)),AV.flt .f64 (toF ((toC (getV r7)).tail.tail.tail.tail.tail.tail.tail.tail.tail.tail.headD .dead))]].length fun (i j : Nat) => ([[AV.int .i64 (toI ((toC (getV r7)).headD .dead)),AV.int .u8 (toI ((toC (getV r7)).tail.headD .dead)),AV.int .i64 (toI ((toC (getV r7)).tail.tail.headD .dead)),AV.int .i64 (toI ((toC (getV r7)).tail.tail.tail.headD .dead)),AV.int .i64 (toI ((toC (getV r7)).tail.tail.tail.tail.headD .dead)),AV.int .i64 (toI ((toC (getV r7)).tail.tail.tail.tail.tail.headD .dead)),AV.int .i64 (toI ((toC (getV r7)).tail.tail.tail.tail.tail.tail.headD .dead)),AV.int .i64 (toI ((toC (getV r7)).tail.tail.tail.tail.tail.tail.tail.headD .dead)),AV.flt .f64 (toF ((toC (getV r7)).tail.tail.tail.tail.tail.tail.tail.tail.headD .dead)),AV.flt .f64 (toF ((toC (getV r7)).tail.tail.tail.tail.tail.tail.tail.tail.tail.headD .dead)),AV.flt .f64 (toF ((toC (getV r7)).tail.tail.tail.tail.tail.tail.tail.tail.tail.tail.headD .dead))]].getD i []).getD j AV.dead])
theorem gbars_springs_a_run (ws z2 : Mo) (w8 wz : Mo) (wx qd ze : Mo) (fuel vw y5 : Nat) (zh : Ge) (v9 yn : Nat) (z1 : Ge) (qjv : ByteArray) (qjt qbv qbw : Int) (qjs qjw : Bool) (qhj qh8 qh9 : Option Nat) : runX Pr (Gbars_springs_a ws z2 w8 wz wx qd ze) [((6,20),Lbars_springs_a ws z2 w8 wz wx qd ze fuel)] fuel 7 20 Xbars_springs_a [AV.agg [AV.ro 4 vw y5 zh,AV.ro 9 v9 yn z1],AV.agg [AV.str qjv,AV.int .u8 qjt,AV.int .i64 qbv,AV.int .i64 qbw,AV.bool qjs,AV.bool qjw,AV.flt .f64 qhj,AV.flt .f64 qh8,AV.flt .f64 qh9]] [] = gbars_springs_a ws z2 w8 wz wx qd ze fuel vw y5 zh v9 yn z1 qjv qjt qbv qbw qjs qjw qhj qh8 qh9 := by kernel_rfl
noncomputable def mbars_springs_a (ws z2 : Mo) (w8 wz : Mo) (wx qd ze : Mo) (fuel : Nat) (xs : List AV) : Option AV := match xs with
  | [AV.agg [AV.ro 4 vw y5 zh,AV.ro 9 v9 yn z1],AV.agg [AV.str qjv,AV.int .u8 qjt,AV.int .i64 qbv,AV.int .i64 qbw,AV.bool qjs,AV.bool qjw,AV.flt .f64 qhj,AV.flt .f64 qh8,AV.flt .f64 qh9]] => gbars_springs_a ws z2 w8 wz wx qd ze fuel vw y5 zh v9 yn z1 qjv qjt qbv qbw qjs qjw qhj qh8 qh9
  | _ => none
theorem gbars_springs_a_sm (ws z2 : Mo) (w8 wz : Mo) (wx qd ze : Mo) (fuel : Nat) (hΓ : GamOk Pr (Gbars_springs_a ws z2 w8 wz wx qd ze)) (hP : NamesOk Pr) : XOk Pr 20 (smX Rbars_springs_a Xbars_springs_a (mbars_springs_a ws z2 w8 wz wx qd ze fuel)) Xbars_springs_a := by
  refine smX_ok (fuel := fuel) hΓ hP (LamOk.of 6 20 (Lbars_springs_a ws z2 w8 wz wx qd ze fuel) 0 (by kernel_rfl) (fun i hi => ?_)) 7 20 Rbars_springs_a Xbars_springs_a _ (fun xs0 ys0 v ha hb h => ?_)
  · match i,hi with
    | i + 0,hi => exact absurd hi (by omega)
  · skip
    have ha0 : xs0.length = 2 := ha
    clear ha
    obtain ⟨a0,xs1,rfl,ha1⟩ := len_cons ha0
    clear ha0
    obtain ⟨a1,xs2,rfl,ha2⟩ := len_cons ha1
    clear ha1
    obtain rfl := List.eq_nil_of_length_eq_zero ha2
    have hy0 : ys0.map List.length = [] := hb
    clear hb
    obtain rfl := map_nil' hy0
    have h : mbars_springs_a ws z2 w8 wz wx qd ze fuel [a0,a1] = some v := h
    generalize hx0 : [a0,a1] = zs at h
    unfold mbars_springs_a at h
    split at h
    · skip
      obtain ⟨rfl,hx1⟩ := List.cons.inj hx0
      obtain ⟨rfl,hx2⟩ := List.cons.inj hx1
      simp only [List.map_cons,List.map_nil]
      exact (gbars_springs_a_run ws z2 w8 wz wx qd ze fuel _ _ _ _ _ _ _ _ _ _ _ _ _ _ _).trans h
    · cases h
noncomputable def Sbars_Springs_0 (ui7 : Int) (qcr qcu : Nat) (qcv : Ge) (qe7 qe2 : Int) (u31 u32 : Int) (v4 v0 : Nat) (v3 : Ge) (wq wp : Nat) (wr : Ge) (qeq : List AV) (qew : List (List AV)) (qce : ByteArray) (qb4 qcc qb5 : Int) (qca qb0 : Bool) (qb2 qcf qb1 : Option Nat) (h3z : List AV) (h3e : List (List AV)) : St := { env := [(1,AV.ptr 0 0),(6,AV.lst 1 11),(7,AV.int .i64 ui7),(9,AV.lst 3 11),(20,AV.ro 9 qcr qcu qcv),(21,AV.int .i64 qe7),(22,AV.int .i64 qe2),(31,AV.int .i64 u31),(32,AV.int .i64 u32)],h := [Blk.box [AV.ro 4 v4 v0 v3,AV.ro 9 wq wp wr],Blk.fl 11 qeq qew,Blk.box [AV.str qce,AV.int .u8 qb4,AV.int .i64 qcc,AV.int .i64 qb5,AV.bool qca,AV.bool qb0,AV.flt .f64 qb2,AV.flt .f64 qcf,AV.flt .f64 qb1],Blk.fl 11 h3z h3e],kd := [3,1] }
noncomputable def Xbars_Springs_0_0 (qxz qxd : Nat) (qyo : Ge) (qzg qzz : Int) (qd9 qd7 : Nat) (qd5 : Ge) (qdc qdd : Nat) (qc7 : Ge) (qz4 : List AV) (q0n : List (List AV)) (qee : ByteArray) (qef qed qeg : Int) (qhn qhq : Bool) (qhm qhl qho : Option Nat) (qlp : List AV) (qln : List (List AV)) : St := { env := [(1,AV.ptr 0 0),(6,AV.lst 1 11),(9,AV.lst 3 11),(20,AV.ro 9 qxz qxd qyo),(21,AV.int .i64 qzg),(22,AV.int .i64 qzz)],h := [Blk.box [AV.ro 4 qd9 qd7 qd5,AV.ro 9 qdc qdd qc7],Blk.fl 11 qz4 q0n,Blk.box [AV.str qee,AV.int .u8 qef,AV.int .i64 qed,AV.int .i64 qeg,AV.bool qhn,AV.bool qhq,AV.flt .f64 qhm,AV.flt .f64 qhl,AV.flt .f64 qho],Blk.fl 11 qlp qln],kd := [3,1] }
noncomputable def gbars_Springs_l0_step (qr ql : Mo) (fuel : Nat) (kn : Int → List (List AV) → Option AV) (kx0 : Nat → Nat → Ge → Int → Int → Nat → Nat → Ge → Nat → Nat → Ge → List AV → List (List AV) → ByteArray → Int → Int → Int → Bool → Bool → Option Nat → Option Nat → Option Nat → List AV → List (List AV) → Option AV) (ui7 : Int) (qcr qcu : Nat) (qcv : Ge) (qe7 qe2 u31 : Int) (v4 v0 : Nat) (v3 : Ge) (wq wp : Nat) (wr : Ge) (qeq : List AV) (qew : List (List AV)) (qce : ByteArray) (qb4 qcc qb5 : Int) (qca qb0 : Bool) (qb2 qcf qb1 : Option Nat) (h3z : List AV) (u32 : Int) (h3e : List (List AV)) : Option AV :=
  bif decide (u32 < u31) then ck (decide (0 ≤ u32)) <| ck (decide (u32 < (↑h3e.length : Int))) <| kn (IntKind.i64.wrap (u32 + 1)) (h3e.set u32.toNat (AV.int .i64 ui7 :: List.drop (0 + [AV.int .i64 ui7].length) (h3e.getD u32.toNat h3z)))
  else kx0 qcr qcu qcv qe7 qe2 v4 v0 v3 wq wp wr qeq qew qce qb4 qcc qb5 qca qb0 qb2 qcf qb1 h3z h3e
noncomputable def gbars_Springs_l0 (qr ql : Mo) (fuel : Nat) (kx0 : Nat → Nat → Ge → Int → Int → Nat → Nat → Ge → Nat → Nat → Ge → List AV → List (List AV) → ByteArray → Int → Int → Int → Bool → Bool → Option Nat → Option Nat → Option Nat → List AV → List (List AV) → Option AV) (ui7 : Int) (qcr qcu : Nat) (qcv : Ge) (qe7 qe2 u31 : Int) (v4 v0 : Nat) (v3 : Ge) (wq wp : Nat) (wr : Ge) (qeq : List AV) (qew : List (List AV)) (qce : ByteArray) (qb4 qcc qb5 : Int) (qca qb0 : Bool) (qb2 qcf qb1 : Option Nat) (h3z : List AV) : Nat → Int → List (List AV) → Option AV
  | 0,_,_ => none
  | n' + 1,u32,h3e => gbars_Springs_l0_step qr ql fuel (gbars_Springs_l0 qr ql fuel kx0 ui7 qcr qcu qcv qe7 qe2 u31 v4 v0 v3 wq wp wr qeq qew qce qb4 qcc qb5 qca qb0 qb2 qcf qb1 h3z n') kx0 ui7 qcr qcu qcv qe7 qe2 u31 v4 v0 v3 wq wp wr qeq qew qce qb4 qcc qb5 qca qb0 qb2 qcf qb1 h3z u32 h3e
termination_by structural k => k
noncomputable def Tbars_Springs_0 : TS' := ⟨[(1,TA.ptr 0 0),(6,TA.lst 1 11),(7,TA.i .i64),(9,TA.lst 3 11),(20,TA.ro 9),(21,TA.i .i64),(22,TA.i .i64),(31,TA.i .i64),(32,TA.i .i64)],[TB.box [TA.ro 4,TA.ro 9],TB.fl 11,TB.box [TA.s,TA.i .u8,TA.i .i64,TA.i .i64,TA.b,TA.b,TA.f .f64,TA.f .f64,TA.f .f64],TB.fl 11],[3,1]⟩
noncomputable def Fbars_Springs_0 (qr ql : Mo) (fuel : Nat) (ps : List Pay) (K : Ex → St → Option AV) : Option AV := match ps with
  | .i ui7 :: .n qcr :: .n qcu :: .g qcv :: .i qe7 :: .i qe2 :: .i u31 :: .i u32 :: .n v4 :: .n v0 :: .g v3 :: .n wq :: .n wp :: .g wr :: .z qeq :: .e qew :: .s qce :: .i qb4 :: .i qcc :: .i qb5 :: .b qca :: .b qb0 :: .o qb2 :: .o qcf :: .o qb1 :: .z h3z :: .e h3e :: [] => gbars_Springs_l0 qr ql fuel (fun qxz qxd qyo qzg qzz qd9 qd7 qd5 qdc qdd qc7 qz4 q0n qee qef qed qeg qhn qhq qhm qhl qho qlp qln => K (Ex.exit 2) (Xbars_Springs_0_0 qxz qxd qyo qzg qzz qd9 qd7 qd5 qdc qdd qc7 qz4 q0n qee qef qed qeg qhn qhq qhm qhl qho qlp qln)) ui7 qcr qcu qcv qe7 qe2 u31 v4 v0 v3 wq wp wr qeq qew qce qb4 qcc qb5 qca qb0 qb2 qcf qb1 h3z fuel u32 h3e
  | _ => none
noncomputable def Sbars_Springs_1 (qim qiu : Nat) (qcg : Ge) (u21 u22 : Int) (zx zy : Nat) (zw : Ge) (wt wu : Nat) (wv : Ge) (h1z : List AV) (h1e : List (List AV)) : St := { env := [(1,AV.ptr 0 0),(6,AV.lst 1 11),(20,AV.ro 9 qim qiu qcg),(21,AV.int .i64 u21),(22,AV.int .i64 u22)],h := [Blk.box [AV.ro 4 zx zy zw,AV.ro 9 wt wu wv],Blk.fl 11 h1z h1e],kd := [1] }
noncomputable def Xbars_Springs_1_0 (qb7 qcb : Nat) (qb3 : Ge) (qap qao : Nat) (qan : Ge) (q0o : List AV) (qzq : List (List AV)) : St := { env := [(6,AV.lst 1 11)],h := [Blk.box [AV.ro 4 qb7 qcb qb3,AV.ro 9 qap qao qan],Blk.fl 11 q0o qzq],kd := [1] }
noncomputable def gbars_Springs_l1_step (qr ql : Mo) (fuel : Nat) (kn : Nat → Nat → Ge → Int → Int → Nat → Nat → Ge → Nat → Nat → Ge → List AV → List (List AV) → Option AV) (kx0 : Nat → Nat → Ge → Nat → Nat → Ge → List AV → List (List AV) → Option AV) (qim qiu : Nat) (qcg : Ge) (u21 u22 : Int) (zx zy : Nat) (zw : Ge) (wt wu : Nat) (wv : Ge) (h1z : List AV) (h1e : List (List AV)) : Option AV :=
  bif decide (u22 < u21) then ck (decide (0 ≤ u22)) <| ck (decide (u22 < (↑qim : Int))) <| ck (fitKs [LK.s,LK.i .u8,LK.i .i64,LK.i .i64,LK.b,LK.b,LK.f .f64,LK.f .f64,LK.f .f64] [qcg u22.toNat 0,qcg u22.toNat 1,qcg u22.toNat 2,qcg u22.toNat 3,qcg u22.toNat 4,qcg u22.toNat 5,qcg u22.toNat 6,qcg u22.toNat 7,qcg u22.toNat 8]) <| let r1 : Option AV := ql [AV.agg [AV.ro 4 zx zy zw,AV.ro 9 wt wu wv],AV.agg [AV.str (toS (qcg u22.toNat 0)),AV.int .u8 (toI (qcg u22.toNat 1)),AV.int .i64 (toI (qcg u22.toNat 2)),AV.int .i64 (toI (qcg u22.toNat 3)),AV.bool (toB (qcg u22.toNat 4)),AV.bool (toB (qcg u22.toNat 5)),AV.flt .f64 (toF (qcg u22.toNat 6)),AV.flt .f64 (toF (qcg u22.toNat 7)),AV.flt .f64 (toF (qcg u22.toNat 8))]]; ck (okX [RS.one (LK.l 11)] r1) <| gbars_Springs_l0 qr ql fuel
      (fun (qvh qsx : Nat) (qs0 : Ge) (qy4 q0q : Int) (vb ve : Nat) (vd : Ge) (wg wh : Nat) (wf : Ge) (qia : List AV) (qge : List (List AV)) (_ : ByteArray) (_ _ _ : Int) (_ _ : Bool) (_ _ _ : Option Nat) (qcd : List AV) (qbt : List (List AV)) => ck (decide ((qge.length + qbt.length) * 88 < 70368744177664)) <| ck (decide (qge.length + qbt.length < 4611686018427387904)) <| kn qvh qsx qs0 qy4 (IntKind.i64.wrap (q0q + 1)) vb ve vd wg wh wf qia (qge ++ rows 11 qbt.length fun (i j : Nat) => (qbt.getD i qcd).getD j AV.dead))
      u22
      qim
      qiu
      qcg
      u21
      u22
      ((↑(rows 11 (match (toT (getV r1)).headD .dead with | AV.ro sz n rd get => n | x => 0) (toG (AV.ro 11 (toN ((toT (getV r1)).headD .dead)) (toR ((toT (getV r1)).headD .dead)) (toG ((toT (getV r1)).headD .dead))))).length : Int))
      zx
      zy
      zw
      wt
      wu
      wv
      h1z
      h1e
      (toS (qcg u22.toNat 0))
      (toI (qcg u22.toNat 1))
      (toI (qcg u22.toNat 2))
      (toI (qcg u22.toNat 3))
      (toB (qcg u22.toNat 4))
      (toB (qcg u22.toNat 5))
      (toF (qcg u22.toNat 6))
      (toF (qcg u22.toNat 7))
      (toF (qcg u22.toNat 8))
      ([AV.int .i64 0,AV.int .u8 0,AV.int .i64 0,AV.int .i64 0,AV.int .i64 0,AV.int .i64 0,AV.int .i64 0,AV.int .i64 0,AV.flt .f64 (some 0),AV.flt .f64 (some 0),AV.flt .f64 (some 0)]) fuel (0) (rows 11 (match (toT (getV r1)).headD .dead with | AV.ro sz n rd get => n | x => 0) (toG (AV.ro 11 (toN ((toT (getV r1)).headD .dead)) (toR ((toT (getV r1)).headD .dead)) (toG ((toT (getV r1)).headD .dead)))))
  else kx0 zx zy zw wt wu wv h1z h1e
noncomputable def gbars_Springs_l1 (qr ql : Mo) (fuel : Nat) (kx0 : Nat → Nat → Ge → Nat → Nat → Ge → List AV → List (List AV) → Option AV) : Nat → Nat → Nat → Ge → Int → Int → Nat → Nat → Ge → Nat → Nat → Ge → List AV → List (List AV) → Option AV
  | 0,_,_,_,_,_,_,_,_,_,_,_,_,_ => none
  | n' + 1,qim,qiu,qcg,u21,u22,zx,zy,zw,wt,wu,wv,h1z,h1e => gbars_Springs_l1_step qr ql fuel (gbars_Springs_l1 qr ql fuel kx0 n') kx0 qim qiu qcg u21 u22 zx zy zw wt wu wv h1z h1e
termination_by structural k => k
noncomputable def Tbars_Springs_1 : TS' := ⟨[(1,TA.ptr 0 0),(6,TA.lst 1 11),(20,TA.ro 9),(21,TA.i .i64),(22,TA.i .i64)],[TB.box [TA.ro 4,TA.ro 9],TB.fl 11],[1]⟩
noncomputable def Fbars_Springs_1 (qr ql : Mo) (fuel : Nat) (ps : List Pay) (K : Ex → St → Option AV) : Option AV := match ps with
  | .n qim :: .n qiu :: .g qcg :: .i u21 :: .i u22 :: .n zx :: .n zy :: .g zw :: .n wt :: .n wu :: .g wv :: .z h1z :: .e h1e :: [] => gbars_Springs_l1 qr ql fuel (fun qb7 qcb qb3 qap qao qan q0o qzq => K (Ex.exit 0) (Xbars_Springs_1_0 qb7 qcb qb3 qap qao qan q0o qzq)) fuel qim qiu qcg u21 u22 zx zy zw wt wu wv h1z h1e
  | _ => none
noncomputable def Lbars_Springs (qr ql : Mo) (fuel : Nat) : Lam AV := [(2194728289280,lam Tbars_Springs_0 (Fbars_Springs_0 qr ql fuel)),(35184367896512,lam Tbars_Springs_1 (Fbars_Springs_1 qr ql fuel))]
noncomputable def Gbars_Springs (qr ql : Mo) : Gam := [(19,smM [RS.one (LK.i .i64),RS.one (LK.i .i64)] qr),(20,smX Rbars_springs_a Xbars_springs_a ql)]
theorem gbars_Springs_l0_eq (qr ql : Mo) (fuel : Nat) (kn : St → Option AV) (K : Ex → St → Option AV) (ui7 : Int) (qcr qcu : Nat) (qcv : Ge) (qe7 qe2 u31 : Int) (v4 v0 : Nat) (v3 : Ge) (wq wp : Nat) (wr : Ge) (qeq : List AV) (qew : List (List AV)) (qce : ByteArray) (qb4 qcc qb5 : Int) (qca qb0 : Bool) (qb2 qcf qb1 : Option Nat) (h3z : List AV) (q0z : Int) (qon : List (List AV)) (u32 : Int) (h3e : List (List AV)) :
    bX Pr (Gbars_Springs qr ql) (Lbars_Springs qr ql fuel) 6 6 1 fuel (Sbars_Springs_0 ui7 qcr qcu qcv qe7 qe2 u31 u32 v4 v0 v3 wq wp wr qeq qew qce qb4 qcc qb5 qca qb0 qb2 qcf qb1 h3z h3e) (fun e s => match e with | .normal => kn (hX Pr 6 1 (Sbars_Springs_0 ui7 qcr qcu qcv qe7 qe2 u31 q0z v4 v0 v3 wq wp wr qeq qew qce qb4 qcc qb5 qca qb0 qb2 qcf qb1 h3z qon) s) | e => K e s) =
    gbars_Springs_l0_step qr ql fuel (fun u32 h3e => kn (Sbars_Springs_0 ui7 qcr qcu qcv qe7 qe2 u31 u32 v4 v0 v3 wq wp wr qeq qew qce qb4 qcc qb5 qca qb0 qb2 qcf qb1 h3z h3e)) (fun qvh qsx qs0 qy4 q0q vb ve vd wg wh wf qia qge yt yo yr yq pb pa pc y9 pe qcd qbt => K (Ex.exit 2) (Xbars_Springs_0_0 qvh qsx qs0 qy4 q0q vb ve vd wg wh wf qia qge yt yo yr yq pb pa pc y9 pe qcd qbt)) ui7 qcr qcu qcv qe7 qe2 u31 v4 v0 v3 wq wp wr qeq qew qce qb4 qcc qb5 qca qb0 qb2 qcf qb1 h3z u32 h3e := by kernel_rfl
theorem gbars_Springs_l0_ok (qr ql : Mo) (fuel : Nat) (K : Ex → St → Option AV) (ui7 : Int) (qcr qcu : Nat) (qcv : Ge) (qe7 qe2 u31 : Int) (v4 v0 : Nat) (v3 : Ge) (wq wp : Nat) (wr : Ge) (qeq : List AV) (qew : List (List AV)) (qce : ByteArray) (qb4 qcc qb5 : Int) (qca qb0 : Bool) (qb2 qcf qb1 : Option Nat) (h3z : List AV) (q0z : Int) (qon : List (List AV)) : ∀ (n' : Nat) (u32 : Int) (h3e : List (List AV)),
    loopK (bX Pr (Gbars_Springs qr ql) (Lbars_Springs qr ql fuel) 6 6 1 fuel) (hX Pr 6 1 (Sbars_Springs_0 ui7 qcr qcu qcv qe7 qe2 u31 q0z v4 v0 v3 wq wp wr qeq qew qce qb4 qcc qb5 qca qb0 qb2 qcf qb1 h3z qon)) n' (Sbars_Springs_0 ui7 qcr qcu qcv qe7 qe2 u31 u32 v4 v0 v3 wq wp wr qeq qew qce qb4 qcc qb5 qca qb0 qb2 qcf qb1 h3z h3e) K = gbars_Springs_l0 qr ql fuel (fun qvh qsx qs0 qy4 q0q vb ve vd wg wh wf qia qge yt yo yr yq pb pa pc y9 pe qcd qbt => K (Ex.exit 2) (Xbars_Springs_0_0 qvh qsx qs0 qy4 q0q vb ve vd wg wh wf qia qge yt yo yr yq pb pa pc y9 pe qcd qbt)) ui7 qcr qcu qcv qe7 qe2 u31 v4 v0 v3 wq wp wr qeq qew qce qb4 qcc qb5 qca qb0 qb2 qcf qb1 h3z n' u32 h3e
  | 0,_,_ => rfl
  | n' + 1,u32,h3e => (gbars_Springs_l0_eq qr ql fuel (fun s => loopK (bX Pr (Gbars_Springs qr ql) (Lbars_Springs qr ql fuel) 6 6 1 fuel) (hX Pr 6 1 (Sbars_Springs_0 ui7 qcr qcu qcv qe7 qe2 u31 q0z v4 v0 v3 wq wp wr qeq qew qce qb4 qcc qb5 qca qb0 qb2 qcf qb1 h3z qon)) n' s K) K ui7 qcr qcu qcv qe7 qe2 u31 v4 v0 v3 wq wp wr qeq qew qce qb4 qcc qb5 qca qb0 qb2 qcf qb1 h3z q0z qon u32 h3e).trans
    (congrArg (fun kn => gbars_Springs_l0_step qr ql fuel kn _ ui7 qcr qcu qcv qe7 qe2 u31 v4 v0 v3 wq wp wr qeq qew qce qb4 qcc qb5 qca qb0 qb2 qcf qb1 h3z u32 h3e) (funext fun u32 => funext fun h3e => gbars_Springs_l0_ok qr ql fuel K ui7 qcr qcu qcv qe7 qe2 u31 v4 v0 v3 wq wp wr qeq qew qce qb4 qcc qb5 qca qb0 qb2 qcf qb1 h3z q0z qon n' u32 h3e))
theorem gbars_Springs_L0 (qr ql : Mo) (fuel : Nat) : LX Pr (Gbars_Springs qr ql) (Lbars_Springs qr ql fuel) 6 6 1 fuel := by
  refine .of Tbars_Springs_0 (Fbars_Springs_0 qr ql fuel) (fun L h => ?_) (fun ps st K r he hr => ?_)
  · have e : (Lbars_Springs qr ql fuel).get (writes (lp Pr 6 1).1) = some (lam Tbars_Springs_0 (Fbars_Springs_0 qr ql fuel)) := by kernel_rfl
    exact (Option.some.inj (e.symm.trans h)).symm
  · unfold Fbars_Springs_0 at hr
    split at hr
    · obtain rfl := (Option.some.inj he).symm
      exact (gbars_Springs_l0_ok qr ql fuel K _ _ _ _ _ _ _ _ _ _ _ _ _ _ _ _ _ _ _ _ _ _ _ _ _ _ _ fuel _ _).trans hr
    · cases hr
theorem gbars_Springs_l1_eq (qr ql : Mo) (fuel : Nat) (kn : St → Option AV) (K : Ex → St → Option AV) (qwc qwh : Nat) (qv6 : Ge) (qpe q1o : Int) (qnd qou : Nat) (qoj : Ge) (qdl qdb : Nat) (qdn : Ge) (q2g : List AV) (qoc : List (List AV)) (qim qiu : Nat) (qcg : Ge) (u21 u22 : Int) (zx zy : Nat) (zw : Ge) (wt wu : Nat) (wv : Ge) (h1z : List AV) (h1e : List (List AV)) :
    bX Pr (Gbars_Springs qr ql) (Lbars_Springs qr ql fuel) 6 6 0 fuel (Sbars_Springs_1 qim qiu qcg u21 u22 zx zy zw wt wu wv h1z h1e) (fun e s => match e with | .normal => kn (hX Pr 6 0 (Sbars_Springs_1 qwc qwh qv6 qpe q1o qnd qou qoj qdl qdb qdn q2g qoc) s) | e => K e s) =
    gbars_Springs_l1_step qr ql fuel (fun qim qiu qcg u21 u22 zx zy zw wt wu wv h1z h1e => kn (Sbars_Springs_1 qim qiu qcg u21 u22 zx zy zw wt wu wv h1z h1e)) (fun vb ve vd wg wh wf qia qge => K (Ex.exit 0) (Xbars_Springs_1_0 vb ve vd wg wh wf qia qge)) qim qiu qcg u21 u22 zx zy zw wt wu wv h1z h1e := by kernel_rfl
theorem gbars_Springs_l1_ok (qr ql : Mo) (fuel : Nat) (K : Ex → St → Option AV) (qwc qwh : Nat) (qv6 : Ge) (qpe q1o : Int) (qnd qou : Nat) (qoj : Ge) (qdl qdb : Nat) (qdn : Ge) (q2g : List AV) (qoc : List (List AV)) : ∀ (n' qim qiu : Nat) (qcg : Ge) (u21 u22 : Int) (zx zy : Nat) (zw : Ge) (wt wu : Nat) (wv : Ge) (h1z : List AV) (h1e : List (List AV)),
    loopK (bX Pr (Gbars_Springs qr ql) (Lbars_Springs qr ql fuel) 6 6 0 fuel) (hX Pr 6 0 (Sbars_Springs_1 qwc qwh qv6 qpe q1o qnd qou qoj qdl qdb qdn q2g qoc)) n' (Sbars_Springs_1 qim qiu qcg u21 u22 zx zy zw wt wu wv h1z h1e) K = gbars_Springs_l1 qr ql fuel (fun vb ve vd wg wh wf qia qge => K (Ex.exit 0) (Xbars_Springs_1_0 vb ve vd wg wh wf qia qge)) n' qim qiu qcg u21 u22 zx zy zw wt wu wv h1z h1e
  | 0,_,_,_,_,_,_,_,_,_,_,_,_,_ => rfl
  | n' + 1,qim,qiu,qcg,u21,u22,zx,zy,zw,wt,wu,wv,h1z,h1e => (gbars_Springs_l1_eq qr ql fuel (fun s => loopK (bX Pr (Gbars_Springs qr ql) (Lbars_Springs qr ql fuel) 6 6 0 fuel) (hX Pr 6 0 (Sbars_Springs_1 qwc qwh qv6 qpe q1o qnd qou qoj qdl qdb qdn q2g qoc)) n' s K) K qwc qwh qv6 qpe q1o qnd qou qoj qdl qdb qdn q2g qoc qim qiu qcg u21 u22 zx zy zw wt wu wv h1z h1e).trans
    (congrArg (fun kn => gbars_Springs_l1_step qr ql fuel kn _ qim qiu qcg u21 u22 zx zy zw wt wu wv h1z h1e) (funext fun qim => funext fun qiu => funext fun qcg => funext fun u21 => funext fun u22 => funext fun zx => funext fun zy => funext fun zw => funext fun wt => funext fun wu => funext fun wv => funext fun h1z => funext fun h1e => gbars_Springs_l1_ok qr ql fuel K qwc qwh qv6 qpe q1o qnd qou qoj qdl qdb qdn q2g qoc n' qim qiu qcg u21 u22 zx zy zw wt wu wv h1z h1e))
termination_by structural k => k
theorem gbars_Springs_L1 (qr ql : Mo) (fuel : Nat) : LX Pr (Gbars_Springs qr ql) (Lbars_Springs qr ql fuel) 6 6 0 fuel := by
  refine .of Tbars_Springs_1 (Fbars_Springs_1 qr ql fuel) (fun L h => ?_) (fun ps st K r he hr => ?_)
  · have e : (Lbars_Springs qr ql fuel).get (writes (lp Pr 6 0).1) = some (lam Tbars_Springs_1 (Fbars_Springs_1 qr ql fuel)) := by kernel_rfl
    exact (Option.some.inj (e.symm.trans h)).symm
  · unfold Fbars_Springs_1 at hr
    split at hr
    · obtain rfl := (Option.some.inj he).symm
      exact (gbars_Springs_l1_ok qr ql fuel K _ _ _ _ _ _ _ _ _ _ _ _ _ fuel _ _ _ _ _ _ _ _ _ _ _ _ _).trans hr
    · cases hr
noncomputable def gbars_Springs (qr ql : Mo) (fuel vw y5 : Nat) (zh : Ge) (v9 yn : Nat) (z1 : Ge) : Option AV :=
  let r0 : Option AV := qr [AV.agg [AV.ro 4 vw y5 zh,AV.ro 9 v9 yn z1]]; ck (okM [RS.one (LK.i .i64),RS.one (LK.i .i64)] r0) <| bif toI ((toT (getV r0)).headD .dead) != 0 then some (AV.tup [AV.ro 11 0 0 fun (x j : Nat) => [AV.int .i64 0,AV.int .u8 0,AV.int .i64 0,AV.int .i64 0,AV.int .i64 0,AV.int .i64 0,AV.int .i64 0,AV.int .i64 0,AV.flt .f64 (some 0),AV.flt .f64 (some 0),AV.flt .f64 (some 0)].getD j AV.dead,AV.int .i64 (toI ((toT (getV r0)).headD .dead))])
  else gbars_Springs_l1 qr ql fuel
    (fun (_ _ : Nat) (_ : Ge) (_ _ : Nat) (_ : Ge) (qtf : List AV) (qlg : List (List AV)) => some (AV.tup [AV.ro 11 qlg.length qlg.length fun (i j : Nat) => (qlg.getD i qtf).getD j AV.dead,AV.int .i64 0])) fuel v9 yn z1 ((↑v9 : Int)) (0) vw y5 zh v9 yn z1 ([AV.int .i64 0,AV.int .u8 0,AV.int .i64 0,AV.int .i64 0,AV.int .i64 0,AV.int .i64 0,AV.int .i64 0,AV.int .i64 0,AV.flt .f64 (some 0),AV.flt .f64 (some 0),AV.flt .f64 (some 0)]) ([])
noncomputable def mbars_Springs (qr ql : Mo) (fuel : Nat) (xs : List AV) : Option AV := match xs with
  | [AV.agg [AV.ro 4 vw y5 zh,AV.ro 9 v9 yn z1]] => gbars_Springs qr ql fuel vw y5 zh v9 yn z1
  | _ => none
abbrev Rbars_Springs : List RS := [RS.one (LK.l (nat_lit 11)),RS.one (LK.i .i64)]
theorem gbars_Springs_sm (qr ql : Mo) (fuel : Nat) (hΓ : GamOk Pr (Gbars_Springs qr ql)) (hP : NamesOk Pr) : SmOk Pr 6 (smM Rbars_Springs (mbars_Springs qr ql fuel)) := smL (L := (Lbars_Springs qr ql fuel)) (n := 2) hΓ hP (by kernel_rfl) (fun i hi => match i,hi with
  | 1,_ => gbars_Springs_L0 qr ql fuel
  | 0,_ => gbars_Springs_L1 qr ql fuel
  | i + 2,hi => absurd hi (by omega)) fun xs v h => by
  unfold mbars_Springs at h
  split at h
  · exact Eq.trans (by kernel_rfl) h
  · cases h
noncomputable def Sref02_NatTrim_0 (yy y7 : Nat) (v6 : Ge) (un3 : Int) : St := { env := [(0,AV.ro 1 yy y7 v6),(3,AV.int .i64 un3)],h := [],kd := [] }
noncomputable def Xref02_NatTrim_0_0 (qxc qxq : Nat) (qwi : Ge) (qlt : Int) : St := { env := [(0,AV.ro 1 qxc qxq qwi),(3,AV.int .i64 qlt)],h := [],kd := [] }
noncomputable def gref02_NatTrim_l0_step (fuel : Nat) (kn : Int → Option AV) (kx0 : Nat → Nat → Ge → Int → Option AV) (yy y7 : Nat) (v6 : Ge) (un3 : Int) : Option AV :=
  ck (bif decide (un3 > 0) then decide (0 ≤ IntKind.i64.wrap (un3 - 1)) else true) <| ck (bif decide (un3 > 0) then decide (IntKind.i64.wrap (un3 - 1) < (↑yy : Int)) else true) <| ck (bif decide (un3 > 0) then true else true) <| ck (bif decide (un3 > 0) then fitK (LK.i .u64) (v6 (IntKind.i64.wrap (un3 - 1)).toNat 0) else true) <| bif bif decide (un3 > 0) then toI (v6 (IntKind.i64.wrap (un3 - 1)).toNat 0) == 0 else false then kn (IntKind.i64.wrap (un3 - 1))
  else kx0 yy y7 v6 un3
noncomputable def gref02_NatTrim_l0 (fuel : Nat) (kx0 : Nat → Nat → Ge → Int → Option AV) (yy y7 : Nat) (v6 : Ge) : Nat → Int → Option AV
  | 0,_ => none
  | n' + 1,un3 => gref02_NatTrim_l0_step fuel (gref02_NatTrim_l0 fuel kx0 yy y7 v6 n') kx0 yy y7 v6 un3
noncomputable def Tref02_NatTrim_0 : TS' := ⟨[(0,TA.ro 1),(3,TA.i .i64)],[],[]⟩
noncomputable def Fref02_NatTrim_0 (fuel : Nat) (ps : List Pay) (K : Ex → St → Option AV) : Option AV := match ps with
  | .n yy :: .n y7 :: .g v6 :: .i un3 :: [] => gref02_NatTrim_l0 fuel (fun qxc qxq qwi qlt => K (Ex.exit 0) (Xref02_NatTrim_0_0 qxc qxq qwi qlt)) yy y7 v6 fuel un3
  | _ => none
noncomputable def Lref02_NatTrim (fuel : Nat) : Lam AV := [(524168,lam Tref02_NatTrim_0 (Fref02_NatTrim_0 fuel))]
noncomputable def Gref02_NatTrim : Gam := []
theorem gref02_NatTrim_l0_eq (fuel : Nat) (kn : St → Option AV) (K : Ex → St → Option AV) (yy y7 : Nat) (v6 : Ge) (qoe un3 : Int) :
    bX Pr Gref02_NatTrim (Lref02_NatTrim fuel) 6 63 0 fuel (Sref02_NatTrim_0 yy y7 v6 un3) (fun e s => match e with | .normal => kn (hX Pr 63 0 (Sref02_NatTrim_0 yy y7 v6 qoe) s) | e => K e s) =
    gref02_NatTrim_l0_step fuel (fun un3 => kn (Sref02_NatTrim_0 yy y7 v6 un3)) (fun xul0n quw ql6 qhx => K (Ex.exit 0) (Xref02_NatTrim_0_0 xul0n quw ql6 qhx)) yy y7 v6 un3 := by kernel_rfl
theorem gref02_NatTrim_l0_ok (fuel : Nat) (K : Ex → St → Option AV) (yy y7 : Nat) (v6 : Ge) (qoe : Int) : ∀ (n' : Nat) (un3 : Int),
    loopK (bX Pr Gref02_NatTrim (Lref02_NatTrim fuel) 6 63 0 fuel) (hX Pr 63 0 (Sref02_NatTrim_0 yy y7 v6 qoe)) n' (Sref02_NatTrim_0 yy y7 v6 un3) K = gref02_NatTrim_l0 fuel (fun xul0n quw ql6 qhx => K (Ex.exit 0) (Xref02_NatTrim_0_0 xul0n quw ql6 qhx)) yy y7 v6 n' un3
  | 0,_ => rfl
  | n' + 1,un3 => (gref02_NatTrim_l0_eq fuel (fun s => loopK (bX Pr Gref02_NatTrim (Lref02_NatTrim fuel) 6 63 0 fuel) (hX Pr 63 0 (Sref02_NatTrim_0 yy y7 v6 qoe)) n' s K) K yy y7 v6 qoe un3).trans
    (congrArg (fun kn => gref02_NatTrim_l0_step fuel kn _ yy y7 v6 un3) (funext fun un3 => gref02_NatTrim_l0_ok fuel K yy y7 v6 qoe n' un3))
theorem gref02_NatTrim_L0 (fuel : Nat) : LX Pr Gref02_NatTrim (Lref02_NatTrim fuel) 6 63 0 fuel := by
  refine .of Tref02_NatTrim_0 (Fref02_NatTrim_0 fuel) (fun L h => ?_) (fun ps st K r he hr => ?_)
  · have e : (Lref02_NatTrim fuel).get (writes (lp Pr 63 0).1) = some (lam Tref02_NatTrim_0 (Fref02_NatTrim_0 fuel)) := by kernel_rfl
    exact (Option.some.inj (e.symm.trans h)).symm
  · unfold Fref02_NatTrim_0 at hr
    split at hr
    · obtain rfl := (Option.some.inj he).symm
      exact (gref02_NatTrim_l0_ok fuel K _ _ _ _ fuel _).trans hr
    · cases hr
noncomputable def gref02_NatTrim (fuel yp qai : Nat) (pn : Ge) : Option AV :=
  gref02_NatTrim_l0 fuel
    (fun (_ quw : Nat) (ql6 : Ge) (qhx : Int) => ck (decide (0 ≤ qhx)) <| ck (decide (qhx ≤ (↑quw : Int))) <| ck (decide ((qhx.toNat - 0) * 8 < 70368744177664)) <| ck (decide (qhx.toNat - 0 < 4611686018427387904)) <| some (AV.ro 1 (rows 1 (qhx.toNat - 0) fun (i : Nat) => ql6 (0 + i)).length (rows 1 (qhx.toNat - 0) fun (i : Nat) => ql6 (0 + i)).length fun (i j : Nat) => ((rows 1 (qhx.toNat - 0) fun (i : Nat) => ql6 (0 + i)).getD i [AV.int .u64 0]).getD j AV.dead))
    yp
    qai
    pn fuel ((↑yp : Int))
noncomputable def mref02_NatTrim (fuel : Nat) (xs : List AV) : Option AV := match xs with
  | [AV.ro 1 yp qai pn] => gref02_NatTrim fuel yp qai pn
  | _ => none
abbrev Rref02_NatTrim : List RS := [RS.one (LK.l (nat_lit 1))]
theorem gref02_NatTrim_sm (fuel : Nat) (hΓ : GamOk Pr Gref02_NatTrim) (hP : NamesOk Pr) : SmOk Pr 63 (smM Rref02_NatTrim (mref02_NatTrim fuel)) := smL (L := (Lref02_NatTrim fuel)) (n := 1) hΓ hP (by kernel_rfl) (fun i hi => match i,hi with
  | 0,_ => gref02_NatTrim_L0 fuel
  | i + 1,hi => absurd hi (by omega)) fun xs v h => by
  unfold mref02_NatTrim at h
  split at h
  · exact Eq.trans (by kernel_rfl) h
  · cases h
noncomputable def Gref02_NatOf (qb : Mo) : Gam := [(63,smM [RS.one (LK.l (nat_lit 1))] qb)]
noncomputable def gref02_NatOf (qb : Mo) (fuel : Nat) (ux0 : Int) : Option AV :=
  let r0 : Option AV := qb [AV.ro 1 1 1 fun (i j : Nat) => ([[AV.int .u64 ux0]].getD i []).getD j AV.dead]; ck (okM [RS.one (LK.l 1)] r0) <| some (AV.ro 1 (toN (getV r0)) (toR (getV r0)) (toG (getV r0)))
noncomputable def mref02_NatOf (qb : Mo) (fuel : Nat) (xs : List AV) : Option AV := match xs with
  | [AV.int .u64 ux0] => gref02_NatOf qb fuel ux0
  | _ => none
abbrev Rref02_NatOf : List RS := [RS.one (LK.l (nat_lit 1))]
theorem gref02_NatOf_sm (qb : Mo) (fuel : Nat) (hΓ : GamOk Pr (Gref02_NatOf qb)) (hP : NamesOk Pr) : SmOk Pr 45 (smM Rref02_NatOf (mref02_NatOf qb fuel)) := sm0 (fuel := fuel) (d := 7) hΓ hP fun xs v h => by
  unfold mref02_NatOf at h
  split at h
  · exact Eq.trans (by kernel_rfl) h
  · cases h
noncomputable def Gref02_Whole (w0 : Mo) : Gam := [(45,smM [RS.one (LK.l (nat_lit 1))] w0)]
noncomputable def gref02_Whole (w0 : Mo) (fuel : Nat) (un0 : Int) : Option AV :=
  bif decide (un0 < 0) then let r0 : Option AV := w0 [AV.int .u64 (IntKind.u64.wrap (0 - IntKind.u64.wrap un0))]; ck (okM [RS.one (LK.l 1)] r0) <| some (AV.agg [AV.bool (decide (un0 < 0)),AV.ro 1 (toN (getV r0)) (toR (getV r0)) (toG (getV r0)),AV.int .i64 0])
  else let r1 : Option AV := w0 [AV.int .u64 (IntKind.u64.wrap un0)]; ck (okM [RS.one (LK.l 1)] r1) <| some (AV.agg [AV.bool (decide (un0 < 0)),AV.ro 1 (toN (getV r1)) (toR (getV r1)) (toG (getV r1)),AV.int .i64 0])
noncomputable def mref02_Whole (w0 : Mo) (fuel : Nat) (xs : List AV) : Option AV := match xs with
  | [AV.int .i64 un0] => gref02_Whole w0 fuel un0
  | _ => none
abbrev Rref02_Whole : List RS := [RS.agg [LK.b,LK.l (nat_lit 1),LK.i .i64]]
theorem gref02_Whole_sm (w0 : Mo) (fuel : Nat) (hΓ : GamOk Pr (Gref02_Whole w0)) (hP : NamesOk Pr) : SmOk Pr 21 (smM Rref02_Whole (mref02_Whole w0 fuel)) := sm0 (fuel := fuel) (d := 7) hΓ hP fun xs v h => by
  unfold mref02_Whole at h
  split at h
  · exact Eq.trans (by kernel_rfl) h
  · cases h
noncomputable def Gref01_fields : Gam := [(55,Go.Am.sBits)]
noncomputable def gref01_fields (fuel : Nat) (ux0 : Option Nat) : Option AV :=
  ck (sBits.ok [AV.flt .f64 ux0]) <| some (AV.tup [AV.bool ((↑(ux0.getD 0) : Int).fdiv (2 ^ 63) == 1),AV.int .i64 (IntKind.i64.wrap ((IntKind.u64.wrap ((↑(ux0.getD 0) : Int).tdiv 4503599627370496)).tmod 2048)),AV.int .u64 ((↑(ux0.getD 0) : Int).tmod 4503599627370496)])
noncomputable def mref01_fields (fuel : Nat) (xs : List AV) : Option AV := match xs with
  | [AV.flt .f64 ux0] => gref01_fields fuel ux0
  | _ => none
abbrev Rref01_fields : List RS := [RS.one LK.b,RS.one (LK.i .i64),RS.one (LK.i .u64)]
theorem gref01_fields_sm (fuel : Nat) (hΓ : GamOk Pr Gref01_fields) (hP : NamesOk Pr) : SmOk Pr 68 (smM Rref01_fields (mref01_fields fuel)) := sm0 (fuel := fuel) (d := 7) hΓ hP fun xs v h => by
  unfold mref01_fields at h
  split at h
  · exact Eq.trans (by kernel_rfl) h
  · cases h
noncomputable def Gref01_Kind (qw : Mo) : Gam := [(68,smM [RS.one LK.b,RS.one (LK.i .i64),RS.one (LK.i .u64)] qw)]
noncomputable def gref01_Kind (qw : Mo) (fuel : Nat) (ux0 : Option Nat) : Option AV :=
  let r0 : Option AV := qw [AV.flt .f64 ux0]; ck (okM [RS.one LK.b,RS.one (LK.i .i64),RS.one (LK.i .u64)] r0) <| bif bif toI ((toT (getV r0)).tail.headD .dead) == 2047 then toI ((toT (getV r0)).tail.tail.headD .dead) != 0 else false then some (AV.int .i64 4)
  else bif toI ((toT (getV r0)).tail.headD .dead) == 2047 then some (AV.int .i64 3)
  else bif decide (toI ((toT (getV r0)).tail.headD .dead) > 0) then some (AV.int .i64 2)
  else bif toI ((toT (getV r0)).tail.tail.headD .dead) != 0 then some (AV.int .i64 1)
  else some (AV.int .i64 0)
noncomputable def mref01_Kind (qw : Mo) (fuel : Nat) (xs : List AV) : Option AV := match xs with
  | [AV.flt .f64 ux0] => gref01_Kind qw fuel ux0
  | _ => none
abbrev Rref01_Kind : List RS := [RS.one (LK.i .i64)]
theorem gref01_Kind_sm (qw : Mo) (fuel : Nat) (hΓ : GamOk Pr (Gref01_Kind qw)) (hP : NamesOk Pr) : SmOk Pr 87 (smM Rref01_Kind (mref01_Kind qw fuel)) := sm0 (fuel := fuel) (d := 7) hΓ hP fun xs v h => by
  unfold mref01_Kind at h
  split at h
  · exact Eq.trans (by kernel_rfl) h
  · cases h
noncomputable def Gref01_Finite (yl : Mo) : Gam := [(87,smM [RS.one (LK.i .i64)] yl)]
noncomputable def gref01_Finite (yl : Mo) (fuel : Nat) (ux0 : Option Nat) : Option AV :=
  ck (okM [RS.one (LK.i .i64)] (yl [AV.flt .f64 ux0])) <| some (AV.bool (decide (toI (getV (yl [AV.flt .f64 ux0])) < 3)))
noncomputable def mref01_Finite (yl : Mo) (fuel : Nat) (xs : List AV) : Option AV := match xs with
  | [AV.flt .f64 ux0] => gref01_Finite yl fuel ux0
  | _ => none
abbrev Rref01_Finite : List RS := [RS.one LK.b]
theorem gref01_Finite_sm (yl : Mo) (fuel : Nat) (hΓ : GamOk Pr (Gref01_Finite yl)) (hP : NamesOk Pr) : SmOk Pr 67 (smM Rref01_Finite (mref01_Finite yl fuel)) := sm0 (fuel := fuel) (d := 7) hΓ hP fun xs v h => by
  unfold mref01_Finite at h
  split at h
  · exact Eq.trans (by kernel_rfl) h
  · cases h
noncomputable def Sref01_Split_0 (vx : Bool) (qc0 qc4 : Int) (y1 : Bool) (ys qaj : Int) : St := { env := [(2,AV.ptr 0 0),(7,AV.ptr 1 0)],h := [Blk.box [AV.bool vx,AV.int .u64 qc0,AV.int .i64 qc4],Blk.box [AV.bool y1,AV.int .u64 ys,AV.int .i64 qaj]],kd := [] }
noncomputable def Xref01_Split_0_0 (qhr : Bool) (qys qx2 : Int) (qyp : Bool) (qjp qwr : Int) : St := { env := [(2,AV.ptr 0 0),(7,AV.ptr 1 0)],h := [Blk.box [AV.bool qhr,AV.int .u64 qys,AV.int .i64 qx2],Blk.box [AV.bool qyp,AV.int .u64 qjp,AV.int .i64 qwr]],kd := [] }
noncomputable def gref01_Split_l0_step (q5 qw : Mo) (fuel : Nat) (kn : Int → Int → Option AV) (kx0 : Bool → Int → Int → Bool → Int → Int → Option AV) (vx : Bool) (qc0 qc4 : Int) (y1 : Bool) (ys qaj : Int) : Option AV :=
  ck (bif ys != 0 then true else true) <| ck (bif ys != 0 then true else true) <| bif bif ys != 0 then ys.tmod 2 == 0 else false then kn (IntKind.u64.wrap (ys.tdiv 2)) (IntKind.i64.wrap (qaj + 1))
  else kx0 vx qc0 qc4 y1 ys qaj
noncomputable def gref01_Split_l0 (q5 qw : Mo) (fuel : Nat) (kx0 : Bool → Int → Int → Bool → Int → Int → Option AV) (vx : Bool) (qc0 qc4 : Int) (y1 : Bool) : Nat → Int → Int → Option AV
  | 0,_,_ => none
  | n' + 1,ys,qaj => gref01_Split_l0_step q5 qw fuel (gref01_Split_l0 q5 qw fuel kx0 vx qc0 qc4 y1 n') kx0 vx qc0 qc4 y1 ys qaj
noncomputable def Tref01_Split_0 : TS' := ⟨[(2,TA.ptr 0 0),(7,TA.ptr 1 0)],[TB.box [TA.b,TA.i .u64,TA.i .i64],TB.box [TA.b,TA.i .u64,TA.i .i64]],[]⟩
noncomputable def Fref01_Split_0 (q5 qw : Mo) (fuel : Nat) (ps : List Pay) (K : Ex → St → Option AV) : Option AV := match ps with
  | .b vx :: .i qc0 :: .i qc4 :: .b y1 :: .i ys :: .i qaj :: [] => gref01_Split_l0 q5 qw fuel (fun qhr qys qx2 qyp qjp qwr => K (Ex.exit 0) (Xref01_Split_0_0 qhr qys qx2 qyp qjp qwr)) vx qc0 qc4 y1 fuel ys qaj
  | _ => none
noncomputable def Lref01_Split (q5 qw : Mo) (fuel : Nat) : Lam AV := [(1125891316908032,lam Tref01_Split_0 (Fref01_Split_0 q5 qw fuel))]
noncomputable def Gref01_Split (q5 qw : Mo) : Gam := [(67,smM [RS.one LK.b] q5),(68,smM [RS.one LK.b,RS.one (LK.i .i64),RS.one (LK.i .u64)] qw)]
theorem gref01_Split_l0_eq (q5 qw : Mo) (fuel : Nat) (kn : St → Option AV) (K : Ex → St → Option AV) (vx : Bool) (qc0 qc4 : Int) (y1 : Bool) (qir qjg : Int) (ys qaj : Int) :
    bX Pr (Gref01_Split q5 qw) (Lref01_Split q5 qw fuel) 6 47 0 fuel (Sref01_Split_0 vx qc0 qc4 y1 ys qaj) (fun e s => match e with | .normal => kn (hX Pr 47 0 (Sref01_Split_0 vx qc0 qc4 y1 qir qjg) s) | e => K e s) =
    gref01_Split_l0_step q5 qw fuel (fun ys qaj => kn (Sref01_Split_0 vx qc0 qc4 y1 ys qaj)) (fun zk xh0_1 xh0_2 qbl p3 qc6 => K (Ex.exit 0) (Xref01_Split_0_0 zk xh0_1 xh0_2 qbl p3 qc6)) vx qc0 qc4 y1 ys qaj := by kernel_rfl
theorem gref01_Split_l0_ok (q5 qw : Mo) (fuel : Nat) (K : Ex → St → Option AV) (vx : Bool) (qc0 qc4 : Int) (y1 : Bool) (qir qjg : Int) : ∀ (n' : Nat) (ys qaj : Int),
    loopK (bX Pr (Gref01_Split q5 qw) (Lref01_Split q5 qw fuel) 6 47 0 fuel) (hX Pr 47 0 (Sref01_Split_0 vx qc0 qc4 y1 qir qjg)) n' (Sref01_Split_0 vx qc0 qc4 y1 ys qaj) K = gref01_Split_l0 q5 qw fuel (fun zk xh0_1 xh0_2 qbl p3 qc6 => K (Ex.exit 0) (Xref01_Split_0_0 zk xh0_1 xh0_2 qbl p3 qc6)) vx qc0 qc4 y1 n' ys qaj
  | 0,_,_ => rfl
  | n' + 1,ys,qaj => (gref01_Split_l0_eq q5 qw fuel (fun s => loopK (bX Pr (Gref01_Split q5 qw) (Lref01_Split q5 qw fuel) 6 47 0 fuel) (hX Pr 47 0 (Sref01_Split_0 vx qc0 qc4 y1 qir qjg)) n' s K) K vx qc0 qc4 y1 qir qjg ys qaj).trans
    (congrArg (fun kn => gref01_Split_l0_step q5 qw fuel kn _ vx qc0 qc4 y1 ys qaj) (funext fun ys => funext fun qaj => gref01_Split_l0_ok q5 qw fuel K vx qc0 qc4 y1 qir qjg n' ys qaj))
theorem gref01_Split_L0 (q5 qw : Mo) (fuel : Nat) : LX Pr (Gref01_Split q5 qw) (Lref01_Split q5 qw fuel) 6 47 0 fuel := by
  refine .of Tref01_Split_0 (Fref01_Split_0 q5 qw fuel) (fun L h => ?_) (fun ps st K r he hr => ?_)
  · have e : (Lref01_Split q5 qw fuel).get (writes (lp Pr 47 0).1) = some (lam Tref01_Split_0 (Fref01_Split_0 q5 qw fuel)) := by kernel_rfl
    exact (Option.some.inj (e.symm.trans h)).symm
  · unfold Fref01_Split_0 at hr
    split at hr
    · obtain rfl := (Option.some.inj he).symm
      exact (gref01_Split_l0_ok q5 qw fuel K _ _ _ _ _ _ fuel _ _).trans hr
    · cases hr
noncomputable def gref01_Split (q5 qw : Mo) (fuel : Nat) (ux0 : Option Nat) : Option AV :=
  ck (okM [RS.one LK.b] (q5 [AV.flt .f64 ux0])) <| bif !toB (getV (q5 [AV.flt .f64 ux0])) then some (AV.tup [AV.agg [AV.bool false,AV.int .u64 0,AV.int .i64 0],AV.bool false])
  else let r0 : Option AV := qw [AV.flt .f64 ux0]; ck (okM [RS.one LK.b,RS.one (LK.i .i64),RS.one (LK.i .u64)] r0) <| bif decide (toI ((toT (getV r0)).tail.headD .dead) > 0) then bif IntKind.u64.wrap (toI ((toT (getV r0)).tail.tail.headD .dead) + 4503599627370496) == 0 then gref01_Split_l0 q5 qw fuel
        (fun (_ : Bool) (_ _ : Int) (qbl : Bool) (p3 qc6 : Int) => some (AV.tup [AV.agg [AV.bool qbl,AV.int .u64 p3,AV.int .i64 qc6],AV.bool true]))
        false
        (0)
        (0)
        (toB ((toT (getV r0)).headD .dead)) fuel (IntKind.u64.wrap (toI ((toT (getV r0)).tail.tail.headD .dead) + 4503599627370496)) (0)
    else gref01_Split_l0 q5 qw fuel
      (fun (_ : Bool) (_ _ : Int) (qa3 : Bool) (qg8 pl : Int) => some (AV.tup [AV.agg [AV.bool qa3,AV.int .u64 qg8,AV.int .i64 pl],AV.bool true]))
      false
      (0)
      (0)
      (toB ((toT (getV r0)).headD .dead)) fuel (IntKind.u64.wrap (toI ((toT (getV r0)).tail.tail.headD .dead) + 4503599627370496)) (IntKind.i64.wrap (toI ((toT (getV r0)).tail.headD .dead) - 1075))
  else bif toI ((toT (getV r0)).tail.tail.headD .dead) == 0 then gref01_Split_l0 q5 qw fuel
      (fun (_ : Bool) (_ _ : Int) (ql3 : Bool) (ql5 qlw : Int) => some (AV.tup [AV.agg [AV.bool ql3,AV.int .u64 ql5,AV.int .i64 qlw],AV.bool true]))
      false
      (0)
      (0)
      (toB ((toT (getV r0)).headD .dead)) fuel (toI ((toT (getV r0)).tail.tail.headD .dead)) (0)
  else gref01_Split_l0 q5 qw fuel
    (fun (_ : Bool) (_ _ : Int) (qlz : Bool) (qhk qlx : Int) => some (AV.tup [AV.agg [AV.bool qlz,AV.int .u64 qhk,AV.int .i64 qlx],AV.bool true]))
    false
    (0)
    (0)
    (toB ((toT (getV r0)).headD .dead)) fuel (toI ((toT (getV r0)).tail.tail.headD .dead)) ((-1074))
noncomputable def mref01_Split (q5 qw : Mo) (fuel : Nat) (xs : List AV) : Option AV := match xs with
  | [AV.flt .f64 ux0] => gref01_Split q5 qw fuel ux0
  | _ => none
abbrev Rref01_Split : List RS := [RS.agg [LK.b,LK.i .u64,LK.i .i64],RS.one LK.b]
theorem gref01_Split_sm (q5 qw : Mo) (fuel : Nat) (hΓ : GamOk Pr (Gref01_Split q5 qw)) (hP : NamesOk Pr) : SmOk Pr 47 (smM Rref01_Split (mref01_Split q5 qw fuel)) := smL (L := (Lref01_Split q5 qw fuel)) (n := 1) hΓ hP (by kernel_rfl) (fun i hi => match i,hi with
  | 0,_ => gref01_Split_L0 q5 qw fuel
  | i + 1,hi => absurd hi (by omega)) fun xs v h => by
  unfold mref01_Split at h
  split at h
  · exact Eq.trans (by kernel_rfl) h
  · cases h
noncomputable def Gref02_Float (yf w0 : Mo) : Gam := [(47,smM [RS.agg [LK.b,LK.i .u64,LK.i .i64],RS.one LK.b] yf),(45,smM [RS.one (LK.l (nat_lit 1))] w0)]
noncomputable def gref02_Float (yf w0 : Mo) (fuel : Nat) (ux0 : Option Nat) : Option AV :=
  let r0 : Option AV := yf [AV.flt .f64 ux0]; ck (okM [RS.agg [LK.b,LK.i .u64,LK.i .i64],RS.one LK.b] r0) <| let r1 : Option AV := w0 [AV.int .u64 (toI ((toC ((toT (getV r0)).headD .dead)).tail.headD .dead))]; ck (okM [RS.one (LK.l 1)] r1) <| some (AV.agg [AV.bool (toB ((toC ((toT (getV r0)).headD .dead)).headD .dead)),AV.ro 1 (toN (getV r1)) (toR (getV r1)) (toG (getV r1)),AV.int .i64 (toI ((toC ((toT (getV r0)).headD .dead)).tail.tail.headD .dead))])
noncomputable def mref02_Float (yf w0 : Mo) (fuel : Nat) (xs : List AV) : Option AV := match xs with
  | [AV.flt .f64 ux0] => gref02_Float yf w0 fuel ux0
  | _ => none
abbrev Rref02_Float : List RS := [RS.agg [LK.b,LK.l (nat_lit 1),LK.i .i64]]
theorem gref02_Float_sm (yf w0 : Mo) (fuel : Nat) (hΓ : GamOk Pr (Gref02_Float yf w0)) (hP : NamesOk Pr) : SmOk Pr 23 (smM Rref02_Float (mref02_Float yf w0 fuel)) := sm0 (fuel := fuel) (d := 7) hΓ hP fun xs v h => by
  unfold mref02_Float at h
  split at h
  · exact Eq.trans (by kernel_rfl) h
  · cases h
noncomputable def Glaw19_exact (yh : Mo) : Gam := [(23,smM [RS.agg [LK.b,LK.l (nat_lit 1),LK.i .i64]] yh)]
noncomputable def glaw19_exact (yh : Mo) (fuel : Nat) (ux0 : Option Nat) : Option AV :=
  let r0 : Option AV := yh [AV.flt .f64 ux0]; ck (okM [RS.agg [LK.b,LK.l 1,LK.i .i64]] r0) <| some (AV.agg [AV.bool (toB ((toC (getV r0)).headD .dead)),AV.ro 1 (toN ((toC (getV r0)).tail.headD .dead)) (toR ((toC (getV r0)).tail.headD .dead)) (toG ((toC (getV r0)).tail.headD .dead)),AV.int .i64 (toI ((toC (getV r0)).tail.tail.headD .dead))])
noncomputable def mlaw19_exact (yh : Mo) (fuel : Nat) (xs : List AV) : Option AV := match xs with
  | [AV.flt .f64 ux0] => glaw19_exact yh fuel ux0
  | _ => none
abbrev Rlaw19_exact : List RS := [RS.agg [LK.b,LK.l (nat_lit 1),LK.i .i64]]
theorem glaw19_exact_sm (yh : Mo) (fuel : Nat) (hΓ : GamOk Pr (Glaw19_exact yh)) (hP : NamesOk Pr) : SmOk Pr 9 (smM Rlaw19_exact (mlaw19_exact yh fuel)) := sm0 (fuel := fuel) (d := 7) hΓ hP fun xs v h => by
  unfold mlaw19_exact at h
  split at h
  · exact Eq.trans (by kernel_rfl) h
  · cases h
noncomputable def Sref02_low_0 (yi y8 : Nat) (yc : Ge) (un3 : Int) : St := { env := [(0,AV.ro 1 yi y8 yc),(3,AV.int .i64 un3)],h := [],kd := [] }
noncomputable def Xref02_low_0_0 (qxl qwl : Nat) (qyn : Ge) (qlt : Int) : St := { env := [(0,AV.ro 1 qxl qwl qyn),(3,AV.int .i64 qlt)],h := [],kd := [] }
noncomputable def gref02_low_l0_step (fuel : Nat) (kn : Int → Option AV) (kx0 : Nat → Nat → Ge → Int → Option AV) (yi y8 : Nat) (yc : Ge) (un3 : Int) : Option AV :=
  ck (bif decide (un3 > 0) then decide (0 ≤ IntKind.i64.wrap (un3 - 1)) else true) <| ck (bif decide (un3 > 0) then decide (IntKind.i64.wrap (un3 - 1) < (↑yi : Int)) else true) <| ck (bif decide (un3 > 0) then true else true) <| ck (bif decide (un3 > 0) then fitK (LK.i .u64) (yc (IntKind.i64.wrap (un3 - 1)).toNat 0) else true) <| bif bif decide (un3 > 0) then toI (yc (IntKind.i64.wrap (un3 - 1)).toNat 0) == 0 else false then kn (IntKind.i64.wrap (un3 - 1))
  else kx0 yi y8 yc un3
noncomputable def gref02_low_l0 (fuel : Nat) (kx0 : Nat → Nat → Ge → Int → Option AV) (yi y8 : Nat) (yc : Ge) : Nat → Int → Option AV
  | 0,_ => none
  | n' + 1,un3 => gref02_low_l0_step fuel (gref02_low_l0 fuel kx0 yi y8 yc n') kx0 yi y8 yc un3
noncomputable def Tref02_low_0 : TS' := ⟨[(0,TA.ro 1),(3,TA.i .i64)],[],[]⟩
noncomputable def Fref02_low_0 (fuel : Nat) (ps : List Pay) (K : Ex → St → Option AV) : Option AV := match ps with
  | .n yi :: .n y8 :: .g yc :: .i un3 :: [] => gref02_low_l0 fuel (fun qxl qwl qyn qlt => K (Ex.exit 0) (Xref02_low_0_0 qxl qwl qyn qlt)) yi y8 yc fuel un3
  | _ => none
noncomputable def Lref02_low (fuel : Nat) : Lam AV := [(262088,lam Tref02_low_0 (Fref02_low_0 fuel))]
noncomputable def Gref02_low : Gam := []
theorem gref02_low_l0_eq (fuel : Nat) (kn : St → Option AV) (K : Ex → St → Option AV) (yi y8 : Nat) (yc : Ge) (qoe un3 : Int) :
    bX Pr Gref02_low (Lref02_low fuel) 6 86 0 fuel (Sref02_low_0 yi y8 yc un3) (fun e s => match e with | .normal => kn (hX Pr 86 0 (Sref02_low_0 yi y8 yc qoe) s) | e => K e s) =
    gref02_low_l0_step fuel (fun un3 => kn (Sref02_low_0 yi y8 yc un3)) (fun xud0n qq7 qvp qhx => K (Ex.exit 0) (Xref02_low_0_0 xud0n qq7 qvp qhx)) yi y8 yc un3 := by kernel_rfl
theorem gref02_low_l0_ok (fuel : Nat) (K : Ex → St → Option AV) (yi y8 : Nat) (yc : Ge) (qoe : Int) : ∀ (n' : Nat) (un3 : Int),
    loopK (bX Pr Gref02_low (Lref02_low fuel) 6 86 0 fuel) (hX Pr 86 0 (Sref02_low_0 yi y8 yc qoe)) n' (Sref02_low_0 yi y8 yc un3) K = gref02_low_l0 fuel (fun xud0n qq7 qvp qhx => K (Ex.exit 0) (Xref02_low_0_0 xud0n qq7 qvp qhx)) yi y8 yc n' un3
  | 0,_ => rfl
  | n' + 1,un3 => (gref02_low_l0_eq fuel (fun s => loopK (bX Pr Gref02_low (Lref02_low fuel) 6 86 0 fuel) (hX Pr 86 0 (Sref02_low_0 yi y8 yc qoe)) n' s K) K yi y8 yc qoe un3).trans
    (congrArg (fun kn => gref02_low_l0_step fuel kn _ yi y8 yc un3) (funext fun un3 => gref02_low_l0_ok fuel K yi y8 yc qoe n' un3))
theorem gref02_low_L0 (fuel : Nat) : LX Pr Gref02_low (Lref02_low fuel) 6 86 0 fuel := by
  refine .of Tref02_low_0 (Fref02_low_0 fuel) (fun L h => ?_) (fun ps st K r he hr => ?_)
  · have e : (Lref02_low fuel).get (writes (lp Pr 86 0).1) = some (lam Tref02_low_0 (Fref02_low_0 fuel)) := by kernel_rfl
    exact (Option.some.inj (e.symm.trans h)).symm
  · unfold Fref02_low_0 at hr
    split at hr
    · obtain rfl := (Option.some.inj he).symm
      exact (gref02_low_l0_ok fuel K _ _ _ _ fuel _).trans hr
    · cases hr
noncomputable def gref02_low (fuel qh2 qjj : Nat) (qil : Ge) : Option AV :=
  gref02_low_l0 fuel
    (fun (_ qq7 : Nat) (qvp : Ge) (qhx : Int) => ck (decide (0 ≤ qhx)) <| ck (decide (qhx ≤ (↑qq7 : Int))) <| some (AV.ro 1 (qhx.toNat - 0) (qq7 - 0) fun (i : Nat) => qvp (0 + i)))
    qh2
    qjj
    qil fuel ((↑qh2 : Int))
noncomputable def mref02_low (fuel : Nat) (xs : List AV) : Option AV := match xs with
  | [AV.ro 1 qh2 qjj qil] => gref02_low fuel qh2 qjj qil
  | _ => none
abbrev Rref02_low : List RS := [RS.one (LK.l (nat_lit 1))]
theorem gref02_low_sm (fuel : Nat) (hΓ : GamOk Pr Gref02_low) (hP : NamesOk Pr) : SmOk Pr 86 (smM Rref02_low (mref02_low fuel)) := smL (L := (Lref02_low fuel)) (n := 1) hΓ hP (by kernel_rfl) (fun i hi => match i,hi with
  | 0,_ => gref02_low_L0 fuel
  | i + 1,hi => absurd hi (by omega)) fun xs v h => by
  unfold mref02_low at h
  split at h
  · exact Eq.trans (by kernel_rfl) h
  · cases h
noncomputable def Sref02_halves_0 (qb8 qdj : Nat) (qbu : Ge) (ui4 : Int) (h0z : List AV) (h0e : List (List AV)) : St := { env := [(0,AV.ro 1 qb8 qdj qbu),(3,AV.lst 0 1),(4,AV.int .i64 ui4)],h := [Blk.fl 1 h0z h0e],kd := [0] }
noncomputable def Xref02_halves_0_0 (qcw : List AV) (qcp : List (List AV)) : St := { env := [(3,AV.lst 0 1)],h := [Blk.fl 1 qcw qcp],kd := [0] }
noncomputable def gref02_halves_l0_step (qm : Mo) (fuel : Nat) (kn : Int → List (List AV) → Option AV) (kx0 : List AV → List (List AV) → Option AV) (qb8 qdj : Nat) (qbu : Ge) (h0z : List AV) (ui4 : Int) (h0e : List (List AV)) : Option AV :=
  bif decide (ui4 < (↑qb8 : Int)) then ck (decide (0 ≤ ui4)) <| ck (decide (ui4 < (↑qb8 : Int))) <| ck (fitK (LK.i .u64) (qbu ui4.toNat 0)) <| ck (decide (0 ≤ ui4)) <| ck (decide (ui4 < (↑qb8 : Int))) <| ck (fitK (LK.i .u64) (qbu ui4.toNat 0)) <| ck (decide ((h0e.length + 2) * 8 < 70368744177664)) <| ck (decide (h0e.length + 2 < 4611686018427387904)) <| kn (IntKind.i64.wrap (ui4 + 1)) (h0e ++ [[AV.int .u64 ((toI (qbu ui4.toNat 0)).tmod 4294967296)],[AV.int .u64 (IntKind.u64.wrap ((toI (qbu ui4.toNat 0)).tdiv 4294967296))]])
  else kx0 h0z h0e
noncomputable def gref02_halves_l0 (qm : Mo) (fuel : Nat) (kx0 : List AV → List (List AV) → Option AV) (qb8 qdj : Nat) (qbu : Ge) (h0z : List AV) : Nat → Int → List (List AV) → Option AV
  | 0,_,_ => none
  | n' + 1,ui4,h0e => gref02_halves_l0_step qm fuel (gref02_halves_l0 qm fuel kx0 qb8 qdj qbu h0z n') kx0 qb8 qdj qbu h0z ui4 h0e
noncomputable def Tref02_halves_0 : TS' := ⟨[(0,TA.ro 1),(3,TA.lst 0 1),(4,TA.i .i64)],[TB.fl 1],[0]⟩
noncomputable def Fref02_halves_0 (qm : Mo) (fuel : Nat) (ps : List Pay) (K : Ex → St → Option AV) : Option AV := match ps with
  | .n qb8 :: .n qdj :: .g qbu :: .i ui4 :: .z h0z :: .e h0e :: [] => gref02_halves_l0 qm fuel (fun qcw qcp => K (Ex.exit 0) (Xref02_halves_0_0 qcw qcp)) qb8 qdj qbu h0z fuel ui4 h0e
  | _ => none
noncomputable def Lref02_halves (qm : Mo) (fuel : Nat) : Lam AV := [(16777208,lam Tref02_halves_0 (Fref02_halves_0 qm fuel))]
noncomputable def Gref02_halves (qm : Mo) : Gam := [(86,smM [RS.one (LK.l (nat_lit 1))] qm)]
theorem gref02_halves_l0_eq (qm : Mo) (fuel : Nat) (kn : St → Option AV) (K : Ex → St → Option AV) (qb8 qdj : Nat) (qbu : Ge) (h0z : List AV) (qnh : Int) (qec : List (List AV)) (ui4 : Int) (h0e : List (List AV)) :
    bX Pr (Gref02_halves qm) (Lref02_halves qm fuel) 6 66 0 fuel (Sref02_halves_0 qb8 qdj qbu ui4 h0z h0e) (fun e s => match e with | .normal => kn (hX Pr 66 0 (Sref02_halves_0 qb8 qdj qbu qnh h0z qec) s) | e => K e s) =
    gref02_halves_l0_step qm fuel (fun ui4 h0e => kn (Sref02_halves_0 qb8 qdj qbu ui4 h0z h0e)) (fun qbb qau => K (Ex.exit 0) (Xref02_halves_0_0 qbb qau)) qb8 qdj qbu h0z ui4 h0e := by kernel_rfl
theorem gref02_halves_l0_ok (qm : Mo) (fuel : Nat) (K : Ex → St → Option AV) (qb8 qdj : Nat) (qbu : Ge) (h0z : List AV) (qnh : Int) (qec : List (List AV)) : ∀ (n' : Nat) (ui4 : Int) (h0e : List (List AV)),
    loopK (bX Pr (Gref02_halves qm) (Lref02_halves qm fuel) 6 66 0 fuel) (hX Pr 66 0 (Sref02_halves_0 qb8 qdj qbu qnh h0z qec)) n' (Sref02_halves_0 qb8 qdj qbu ui4 h0z h0e) K = gref02_halves_l0 qm fuel (fun qbb qau => K (Ex.exit 0) (Xref02_halves_0_0 qbb qau)) qb8 qdj qbu h0z n' ui4 h0e
  | 0,_,_ => rfl
  | n' + 1,ui4,h0e => (gref02_halves_l0_eq qm fuel (fun s => loopK (bX Pr (Gref02_halves qm) (Lref02_halves qm fuel) 6 66 0 fuel) (hX Pr 66 0 (Sref02_halves_0 qb8 qdj qbu qnh h0z qec)) n' s K) K qb8 qdj qbu h0z qnh qec ui4 h0e).trans
    (congrArg (fun kn => gref02_halves_l0_step qm fuel kn _ qb8 qdj qbu h0z ui4 h0e) (funext fun ui4 => funext fun h0e => gref02_halves_l0_ok qm fuel K qb8 qdj qbu h0z qnh qec n' ui4 h0e))
theorem gref02_halves_L0 (qm : Mo) (fuel : Nat) : LX Pr (Gref02_halves qm) (Lref02_halves qm fuel) 6 66 0 fuel := by
  refine .of Tref02_halves_0 (Fref02_halves_0 qm fuel) (fun L h => ?_) (fun ps st K r he hr => ?_)
  · have e : (Lref02_halves qm fuel).get (writes (lp Pr 66 0).1) = some (lam Tref02_halves_0 (Fref02_halves_0 qm fuel)) := by kernel_rfl
    exact (Option.some.inj (e.symm.trans h)).symm
  · unfold Fref02_halves_0 at hr
    split at hr
    · obtain rfl := (Option.some.inj he).symm
      exact (gref02_halves_l0_ok qm fuel K _ _ _ _ _ _ fuel _ _).trans hr
    · cases hr
noncomputable def gref02_halves (qm : Mo) (fuel qbz qbx : Nat) (qby : Ge) : Option AV :=
  gref02_halves_l0 qm fuel
    (fun (qbb : List AV) (qau : List (List AV)) => let r0 : Option AV := qm [AV.ro 1 qau.length qau.length fun (i j : Nat) => (qau.getD i qbb).getD j AV.dead]; ck (okM [RS.one (LK.l 1)] r0) <| some (AV.ro 1 (toN (getV r0)) (toR (getV r0)) (toG (getV r0))))
    qbz
    qbx
    qby
    ([AV.int .u64 0]) fuel (0) ([])
noncomputable def mref02_halves (qm : Mo) (fuel : Nat) (xs : List AV) : Option AV := match xs with
  | [AV.ro 1 qbz qbx qby] => gref02_halves qm fuel qbz qbx qby
  | _ => none
abbrev Rref02_halves : List RS := [RS.one (LK.l (nat_lit 1))]
theorem gref02_halves_sm (qm : Mo) (fuel : Nat) (hΓ : GamOk Pr (Gref02_halves qm)) (hP : NamesOk Pr) : SmOk Pr 66 (smM Rref02_halves (mref02_halves qm fuel)) := smL (L := (Lref02_halves qm fuel)) (n := 1) hΓ hP (by kernel_rfl) (fun i hi => match i,hi with
  | 0,_ => gref02_halves_L0 qm fuel
  | i + 1,hi => absurd hi (by omega)) fun xs v h => by
  unfold mref02_halves at h
  split at h
  · exact Eq.trans (by kernel_rfl) h
  · cases h
noncomputable def Sref02_product_0 (qcj qc2 : Nat) (qbp : Ge) (qb6 qcz : Nat) (qbq : Ge) (p6 qa1 qbc : Nat) (qa7 yv uk8 : Int) (qdp : List AV) (qdq : List (List AV)) : St := { env := [(0,AV.ro 1 qcj qc2 qbp),(1,AV.ro 1 qb6 qcz qbq),(5,AV.own 0 p6 1 qa1 qbc),(6,AV.int .i64 qa7),(7,AV.int .u64 yv),(8,AV.int .i64 uk8)],h := [Blk.fx 1 qdp qdq],kd := [] }
noncomputable def Xref02_product_0_0 (qx7 qx9 : Nat) (qyh : Ge) (qw3 qyv : Nat) (qyu : Ge) (qs7 qt6 qvw : Nat) (qzw qgj : Int) (qy1 : List AV) (qz8 : List (List AV)) : St := { env := [(0,AV.ro 1 qx7 qx9 qyh),(1,AV.ro 1 qw3 qyv qyu),(5,AV.own 0 qs7 1 qt6 qvw),(6,AV.int .i64 qzw),(7,AV.int .u64 qgj)],h := [Blk.fx 1 qy1 qz8],kd := [] }
noncomputable def gref02_product_l0_step (qm : Mo) (fuel : Nat) (kn : Int → Int → List (List AV) → Option AV) (kx0 : Nat → Nat → Ge → Nat → Nat → Ge → Nat → Nat → Nat → Int → Int → List AV → List (List AV) → Option AV) (qcj qc2 : Nat) (qbp : Ge) (qb6 qcz : Nat) (qbq : Ge) (p6 qa1 qbc : Nat) (qa7 : Int) (qdp : List AV) (yv uk8 : Int) (qdq : List (List AV)) : Option AV :=
  bif decide (uk8 < (↑qb6 : Int)) then ck (decide (0 ≤ qa7)) <| ck (decide (qa7 < (↑qcj : Int))) <| ck (fitK (LK.i .u64) (qbp qa7.toNat 0)) <| ck (decide (0 ≤ uk8)) <| ck (decide (uk8 < (↑qb6 : Int))) <| ck (fitK (LK.i .u64) (qbq uk8.toNat 0)) <| ck (decide (0 ≤ IntKind.i64.wrap (qa7 + uk8))) <| ck (decide (IntKind.i64.wrap (qa7 + uk8) < (↑qa1 : Int))) <| ck (fitK (LK.i .u64) ((qdq.getD (p6 + (IntKind.i64.wrap (qa7 + uk8)).toNat) qdp).getD 0 AV.dead)) <| ck (decide (0 ≤ IntKind.i64.wrap (qa7 + uk8))) <| ck (decide (IntKind.i64.wrap (qa7 + uk8) < (↑qa1 : Int))) <| kn (IntKind.u64.wrap ((IntKind.u64.wrap (IntKind.u64.wrap (IntKind.u64.wrap (toI (qbp qa7.toNat 0) * toI (qbq uk8.toNat 0)) + toI ((qdq.getD (p6 + (IntKind.i64.wrap (qa7 + uk8)).toNat) qdp).getD 0 AV.dead)) + yv)).tdiv 4294967296)) (IntKind.i64.wrap (uk8 + 1)) (qdq.set (p6 + (IntKind.i64.wrap (qa7 + uk8)).toNat) (AV.int .u64 ((IntKind.u64.wrap (IntKind.u64.wrap (IntKind.u64.wrap (toI (qbp qa7.toNat 0) * toI (qbq uk8.toNat 0)) + toI ((qdq.getD (p6 + (IntKind.i64.wrap (qa7 + uk8)).toNat) qdp).getD 0 AV.dead)) + yv)).tmod 4294967296) :: List.drop (0 + [AV.int .u64 ((IntKind.u64.wrap (IntKind.u64.wrap (IntKind.u64.wrap (toI (qbp qa7.toNat 0) * toI (qbq uk8.toNat 0)) + toI ((qdq.getD (p6 + (IntKind.i64.wrap (qa7 + uk8)).toNat) qdp).getD 0 AV.dead)) + yv)).tmod 4294967296)].length) (qdq.getD (p6 + (IntKind.i64.wrap (qa7 + uk8)).toNat) qdp)))
  else kx0 qcj qc2 qbp qb6 qcz qbq p6 qa1 qbc qa7 yv qdp qdq
noncomputable def gref02_product_l0 (qm : Mo) (fuel : Nat) (kx0 : Nat → Nat → Ge → Nat → Nat → Ge → Nat → Nat → Nat → Int → Int → List AV → List (List AV) → Option AV) (qcj qc2 : Nat) (qbp : Ge) (qb6 qcz : Nat) (qbq : Ge) (p6 qa1 qbc : Nat) (qa7 : Int) (qdp : List AV) : Nat → Int → Int → List (List AV) → Option AV
  | 0,_,_,_ => none
  | n' + 1,yv,uk8,qdq => gref02_product_l0_step qm fuel (gref02_product_l0 qm fuel kx0 qcj qc2 qbp qb6 qcz qbq p6 qa1 qbc qa7 qdp n') kx0 qcj qc2 qbp qb6 qcz qbq p6 qa1 qbc qa7 qdp yv uk8 qdq
termination_by structural k => k
noncomputable def Tref02_product_0 : TS' := ⟨[(0,TA.ro 1),(1,TA.ro 1),(5,TA.own 0 1),(6,TA.i .i64),(7,TA.i .u64),(8,TA.i .i64)],[TB.fx 1],[]⟩
noncomputable def Fref02_product_0 (qm : Mo) (fuel : Nat) (ps : List Pay) (K : Ex → St → Option AV) : Option AV := match ps with
  | .n qcj :: .n qc2 :: .g qbp :: .n qb6 :: .n qcz :: .g qbq :: .n p6 :: .n qa1 :: .n qbc :: .i qa7 :: .i yv :: .i uk8 :: .z qdp :: .e qdq :: [] => gref02_product_l0 qm fuel (fun qx7 qx9 qyh qw3 qyv qyu qs7 qt6 qvw qzw qgj qy1 qz8 => K (Ex.exit 2) (Xref02_product_0_0 qx7 qx9 qyh qw3 qyv qyu qs7 qt6 qvw qzw qgj qy1 qz8)) qcj qc2 qbp qb6 qcz qbq p6 qa1 qbc qa7 qdp fuel yv uk8 qdq
  | _ => none
noncomputable def Sref02_product_1 (qct qdk : Nat) (qdi : Ge) (qc9 qc8 : Nat) (qdm : Ge) (qel qek qen : Nat) (ui6 : Int) (h0z : List AV) (h0e : List (List AV)) : St := { env := [(0,AV.ro 1 qct qdk qdi),(1,AV.ro 1 qc9 qc8 qdm),(5,AV.own 0 qel 1 qek qen),(6,AV.int .i64 ui6)],h := [Blk.fx 1 h0z h0e],kd := [] }
noncomputable def Xref02_product_1_0 (qvx qvk qr0 : Nat) (q0s : List AV) (qzv : List (List AV)) : St := { env := [(5,AV.own 0 qvx 1 qvk qr0)],h := [Blk.fx 1 q0s qzv],kd := [] }
noncomputable def gref02_product_l1_step (qm : Mo) (fuel : Nat) (kn : Nat → Nat → Ge → Nat → Nat → Ge → Nat → Nat → Nat → Int → List AV → List (List AV) → Option AV) (kx0 : Nat → Nat → Nat → List AV → List (List AV) → Option AV) (qct qdk : Nat) (qdi : Ge) (qc9 qc8 : Nat) (qdm : Ge) (qel qek qen : Nat) (ui6 : Int) (h0z : List AV) (h0e : List (List AV)) : Option AV :=
  bif decide (ui6 < (↑qct : Int)) then gref02_product_l0 qm fuel
      (fun (qrh qtd : Nat) (qri : Ge) (qj9 qvl : Nat) (qrx : Ge) (qff qfx qgu : Nat) (qv0 qa4 : Int) (qbb : List AV) (qau : List (List AV)) => ck (decide (0 ≤ IntKind.i64.wrap (qv0 + (↑qj9 : Int)))) <| ck (decide (IntKind.i64.wrap (qv0 + (↑qj9 : Int)) < (↑qfx : Int))) <| kn qrh qtd qri qj9 qvl qrx qff qfx qgu (IntKind.i64.wrap (qv0 + 1)) qbb (qau.set (qff + (IntKind.i64.wrap (qv0 + (↑qj9 : Int))).toNat) (AV.int .u64 qa4 :: List.drop (0 + [AV.int .u64 qa4].length) (qau.getD (qff + (IntKind.i64.wrap (qv0 + (↑qj9 : Int))).toNat) qbb))))
      qct
      qdk
      qdi
      qc9
      qc8
      qdm
      qel
      qek
      qen
      ui6
      h0z fuel (0) (0) h0e
  else kx0 qel qek qen h0z h0e
noncomputable def gref02_product_l1 (qm : Mo) (fuel : Nat) (kx0 : Nat → Nat → Nat → List AV → List (List AV) → Option AV) : Nat → Nat → Nat → Ge → Nat → Nat → Ge → Nat → Nat → Nat → Int → List AV → List (List AV) → Option AV
  | 0,_,_,_,_,_,_,_,_,_,_,_,_ => none
  | n' + 1,qct,qdk,qdi,qc9,qc8,qdm,qel,qek,qen,ui6,h0z,h0e => gref02_product_l1_step qm fuel (gref02_product_l1 qm fuel kx0 n') kx0 qct qdk qdi qc9 qc8 qdm qel qek qen ui6 h0z h0e
noncomputable def Tref02_product_1 : TS' := ⟨[(0,TA.ro 1),(1,TA.ro 1),(5,TA.own 0 1),(6,TA.i .i64)],[TB.fx 1],[]⟩
noncomputable def Fref02_product_1 (qm : Mo) (fuel : Nat) (ps : List Pay) (K : Ex → St → Option AV) : Option AV := match ps with
  | .n qct :: .n qdk :: .g qdi :: .n qc9 :: .n qc8 :: .g qdm :: .n qel :: .n qek :: .n qen :: .i ui6 :: .z h0z :: .e h0e :: [] => gref02_product_l1 qm fuel (fun qvx qvk qr0 q0s qzv => K (Ex.exit 0) (Xref02_product_1_0 qvx qvk qr0 q0s qzv)) fuel qct qdk qdi qc9 qc8 qdm qel qek qen ui6 h0z h0e
  | _ => none
noncomputable def Lref02_product (qm : Mo) (fuel : Nat) : Lam AV := [(36028797014770560,lam Tref02_product_0 (Fref02_product_0 qm fuel)),(4611686018427323328,lam Tref02_product_1 (Fref02_product_1 qm fuel))]
noncomputable def Gref02_product (qm : Mo) : Gam := [(86,smM [RS.one (LK.l (nat_lit 1))] qm)]
theorem gref02_product_l0_eq (qm : Mo) (fuel : Nat) (kn : St → Option AV) (K : Ex → St → Option AV) (qcj qc2 : Nat) (qbp : Ge) (qb6 qcz : Nat) (qbq : Ge) (p6 qa1 qbc : Nat) (qa7 : Int) (qdp : List AV) (qkz qpo : Int) (qmh : List (List AV)) (yv uk8 : Int) (qdq : List (List AV)) :
    bX Pr (Gref02_product qm) (Lref02_product qm fuel) 6 65 1 fuel (Sref02_product_0 qcj qc2 qbp qb6 qcz qbq p6 qa1 qbc qa7 yv uk8 qdp qdq) (fun e s => match e with | .normal => kn (hX Pr 65 1 (Sref02_product_0 qcj qc2 qbp qb6 qcz qbq p6 qa1 qbc qa7 qkz qpo qdp qmh) s) | e => K e s) =
    gref02_product_l0_step qm fuel (fun yv uk8 qdq => kn (Sref02_product_0 qcj qc2 qbp qb6 qcz qbq p6 qa1 qbc qa7 yv uk8 qdp qdq)) (fun qrh qtd qri qj9 qvl qrx qff qfx qgu qv0 qa4 qbb qau => K (Ex.exit 2) (Xref02_product_0_0 qrh qtd qri qj9 qvl qrx qff qfx qgu qv0 qa4 qbb qau)) qcj qc2 qbp qb6 qcz qbq p6 qa1 qbc qa7 qdp yv uk8 qdq := by kernel_rfl
theorem gref02_product_l0_ok (qm : Mo) (fuel : Nat) (K : Ex → St → Option AV) (qcj qc2 : Nat) (qbp : Ge) (qb6 qcz : Nat) (qbq : Ge) (p6 qa1 qbc : Nat) (qa7 : Int) (qdp : List AV) (qkz qpo : Int) (qmh : List (List AV)) : ∀ (n' : Nat) (yv uk8 : Int) (qdq : List (List AV)),
    loopK (bX Pr (Gref02_product qm) (Lref02_product qm fuel) 6 65 1 fuel) (hX Pr 65 1 (Sref02_product_0 qcj qc2 qbp qb6 qcz qbq p6 qa1 qbc qa7 qkz qpo qdp qmh)) n' (Sref02_product_0 qcj qc2 qbp qb6 qcz qbq p6 qa1 qbc qa7 yv uk8 qdp qdq) K = gref02_product_l0 qm fuel (fun qrh qtd qri qj9 qvl qrx qff qfx qgu qv0 qa4 qbb qau => K (Ex.exit 2) (Xref02_product_0_0 qrh qtd qri qj9 qvl qrx qff qfx qgu qv0 qa4 qbb qau)) qcj qc2 qbp qb6 qcz qbq p6 qa1 qbc qa7 qdp n' yv uk8 qdq
  | 0,_,_,_ => rfl
  | n' + 1,yv,uk8,qdq => (gref02_product_l0_eq qm fuel (fun s => loopK (bX Pr (Gref02_product qm) (Lref02_product qm fuel) 6 65 1 fuel) (hX Pr 65 1 (Sref02_product_0 qcj qc2 qbp qb6 qcz qbq p6 qa1 qbc qa7 qkz qpo qdp qmh)) n' s K) K qcj qc2 qbp qb6 qcz qbq p6 qa1 qbc qa7 qdp qkz qpo qmh yv uk8 qdq).trans
    (congrArg (fun kn => gref02_product_l0_step qm fuel kn _ qcj qc2 qbp qb6 qcz qbq p6 qa1 qbc qa7 qdp yv uk8 qdq) (funext fun yv => funext fun uk8 => funext fun qdq => gref02_product_l0_ok qm fuel K qcj qc2 qbp qb6 qcz qbq p6 qa1 qbc qa7 qdp qkz qpo qmh n' yv uk8 qdq))
theorem gref02_product_L0 (qm : Mo) (fuel : Nat) : LX Pr (Gref02_product qm) (Lref02_product qm fuel) 6 65 1 fuel := by
  refine .of Tref02_product_0 (Fref02_product_0 qm fuel) (fun L h => ?_) (fun ps st K r he hr => ?_)
  · have e : (Lref02_product qm fuel).get (writes (lp Pr 65 1).1) = some (lam Tref02_product_0 (Fref02_product_0 qm fuel)) := by kernel_rfl
    exact (Option.some.inj (e.symm.trans h)).symm
  · unfold Fref02_product_0 at hr
    split at hr
    · obtain rfl := (Option.some.inj he).symm
      exact (gref02_product_l0_ok qm fuel K _ _ _ _ _ _ _ _ _ _ _ _ _ _ fuel _ _ _).trans hr
    · cases hr
theorem gref02_product_l1_eq (qm : Mo) (fuel : Nat) (kn : St → Option AV) (K : Ex → St → Option AV) (qk1 qky : Nat) (qk0 : Ge) (qk3 qk6 : Nat) (qk2 : Ge) (qmw qqj qoh : Nat) (q13 : Int) (q1z : List AV) (qec : List (List AV)) (qct qdk : Nat) (qdi : Ge) (qc9 qc8 : Nat) (qdm : Ge) (qel qek qen : Nat) (ui6 : Int) (h0z : List AV) (h0e : List (List AV)) :
    bX Pr (Gref02_product qm) (Lref02_product qm fuel) 6 65 0 fuel (Sref02_product_1 qct qdk qdi qc9 qc8 qdm qel qek qen ui6 h0z h0e) (fun e s => match e with | .normal => kn (hX Pr 65 0 (Sref02_product_1 qk1 qky qk0 qk3 qk6 qk2 qmw qqj qoh q13 q1z qec) s) | e => K e s) =
    gref02_product_l1_step qm fuel (fun qct qdk qdi qc9 qc8 qdm qel qek qen ui6 h0z h0e => kn (Sref02_product_1 qct qdk qdi qc9 qc8 qdm qel qek qen ui6 h0z h0e)) (fun qff qfx qgu qbb qau => K (Ex.exit 0) (Xref02_product_1_0 qff qfx qgu qbb qau)) qct qdk qdi qc9 qc8 qdm qel qek qen ui6 h0z h0e := by kernel_rfl
theorem gref02_product_l1_ok (qm : Mo) (fuel : Nat) (K : Ex → St → Option AV) (qk1 qky : Nat) (qk0 : Ge) (qk3 qk6 : Nat) (qk2 : Ge) (qmw qqj qoh : Nat) (q13 : Int) (q1z : List AV) (qec : List (List AV)) : ∀ (n' qct qdk : Nat) (qdi : Ge) (qc9 qc8 : Nat) (qdm : Ge) (qel qek qen : Nat) (ui6 : Int) (h0z : List AV) (h0e : List (List AV)),
    loopK (bX Pr (Gref02_product qm) (Lref02_product qm fuel) 6 65 0 fuel) (hX Pr 65 0 (Sref02_product_1 qk1 qky qk0 qk3 qk6 qk2 qmw qqj qoh q13 q1z qec)) n' (Sref02_product_1 qct qdk qdi qc9 qc8 qdm qel qek qen ui6 h0z h0e) K = gref02_product_l1 qm fuel (fun qff qfx qgu qbb qau => K (Ex.exit 0) (Xref02_product_1_0 qff qfx qgu qbb qau)) n' qct qdk qdi qc9 qc8 qdm qel qek qen ui6 h0z h0e
  | 0,_,_,_,_,_,_,_,_,_,_,_,_ => rfl
  | n' + 1,qct,qdk,qdi,qc9,qc8,qdm,qel,qek,qen,ui6,h0z,h0e => (gref02_product_l1_eq qm fuel (fun s => loopK (bX Pr (Gref02_product qm) (Lref02_product qm fuel) 6 65 0 fuel) (hX Pr 65 0 (Sref02_product_1 qk1 qky qk0 qk3 qk6 qk2 qmw qqj qoh q13 q1z qec)) n' s K) K qk1 qky qk0 qk3 qk6 qk2 qmw qqj qoh q13 q1z qec qct qdk qdi qc9 qc8 qdm qel qek qen ui6 h0z h0e).trans
    (congrArg (fun kn => gref02_product_l1_step qm fuel kn _ qct qdk qdi qc9 qc8 qdm qel qek qen ui6 h0z h0e) (funext fun qct => funext fun qdk => funext fun qdi => funext fun qc9 => funext fun qc8 => funext fun qdm => funext fun qel => funext fun qek => funext fun qen => funext fun ui6 => funext fun h0z => funext fun h0e => gref02_product_l1_ok qm fuel K qk1 qky qk0 qk3 qk6 qk2 qmw qqj qoh q13 q1z qec n' qct qdk qdi qc9 qc8 qdm qel qek qen ui6 h0z h0e))
termination_by structural k => k
theorem gref02_product_L1 (qm : Mo) (fuel : Nat) : LX Pr (Gref02_product qm) (Lref02_product qm fuel) 6 65 0 fuel := by
  refine .of Tref02_product_1 (Fref02_product_1 qm fuel) (fun L h => ?_) (fun ps st K r he hr => ?_)
  · have e : (Lref02_product qm fuel).get (writes (lp Pr 65 0).1) = some (lam Tref02_product_1 (Fref02_product_1 qm fuel)) := by kernel_rfl
    exact (Option.some.inj (e.symm.trans h)).symm
  · unfold Fref02_product_1 at hr
    split at hr
    · obtain rfl := (Option.some.inj he).symm
      exact (gref02_product_l1_ok qm fuel K _ _ _ _ _ _ _ _ _ _ _ _ fuel _ _ _ _ _ _ _ _ _ _ _ _).trans hr
    · cases hr
noncomputable def gref02_product (qm : Mo) (fuel ql7 q1i : Nat) (q1w : Ge) (ql2 q1x : Nat) (q2j : Ge) : Option AV :=
  ck (decide (0 ≤ IntKind.i64.wrap ((↑ql7 : Int) + (↑ql2 : Int)))) <| ck (decide (IntKind.i64.wrap ((↑ql7 : Int) + (↑ql2 : Int)) ≤ IntKind.i64.wrap ((↑ql7 : Int) + (↑ql2 : Int)))) <| ck ((8 * (IntKind.i64.wrap ((↑ql7 : Int) + (↑ql2 : Int))).toNat).ble 281474976710656) <| ck (((IntKind.i64.wrap ((↑ql7 : Int) + (↑ql2 : Int))).toNat + 1).ble 4611686018427387904) <| gref02_product_l1 qm fuel
    (fun (q27 q5k q4v : Nat) (qcw : List AV) (qcp : List (List AV)) => let r0 : Option AV := qm [AV.ro 1 q5k q4v fun (i j : Nat) => (qcp.getD (q27 + i) qcw).getD j AV.dead]; ck (okM [RS.one (LK.l 1)] r0) <| some (AV.ro 1 (toN (getV r0)) (toR (getV r0)) (toG (getV r0)))) fuel ql7 q1i q1w ql2 q1x q2j (0) ((IntKind.i64.wrap ((↑ql7 : Int) + (↑ql2 : Int))).toNat) ((IntKind.i64.wrap ((↑ql7 : Int) + (↑ql2 : Int))).toNat) (0) ([AV.int .u64 0]) (List.replicate (IntKind.i64.wrap ((↑ql7 : Int) + (↑ql2 : Int))).toNat [AV.int .u64 0])
noncomputable def mref02_product (qm : Mo) (fuel : Nat) (xs : List AV) : Option AV := match xs with
  | [AV.ro 1 ql7 q1i q1w,AV.ro 1 ql2 q1x q2j] => gref02_product qm fuel ql7 q1i q1w ql2 q1x q2j
  | _ => none
abbrev Rref02_product : List RS := [RS.one (LK.l (nat_lit 1))]
theorem gref02_product_sm (qm : Mo) (fuel : Nat) (hΓ : GamOk Pr (Gref02_product qm)) (hP : NamesOk Pr) : SmOk Pr 65 (smM Rref02_product (mref02_product qm fuel)) := smL (L := (Lref02_product qm fuel)) (n := 2) hΓ hP (by kernel_rfl) (fun i hi => match i,hi with
  | 1,_ => gref02_product_L0 qm fuel
  | 0,_ => gref02_product_L1 qm fuel
  | i + 2,hi => absurd hi (by omega)) fun xs v h => by
  unfold mref02_product at h
  split at h
  · exact Eq.trans (by kernel_rfl) h
  · cases h
noncomputable def Sref02_limbs_0 (yi y8 : Nat) (yc : Ge) (ui4 : Int) (h0z : List AV) (h0e : List (List AV)) : St := { env := [(0,AV.ro 1 yi y8 yc),(3,AV.lst 0 1),(4,AV.int .i64 ui4)],h := [Blk.fl 1 h0z h0e],kd := [0] }
noncomputable def Xref02_limbs_0_0 (qcw : List AV) (qcp : List (List AV)) : St := { env := [(3,AV.lst 0 1)],h := [Blk.fl 1 qcw qcp],kd := [0] }
noncomputable def gref02_limbs_l0_step (qb : Mo) (fuel : Nat) (kn : Int → List (List AV) → Option AV) (kx0 : List AV → List (List AV) → Option AV) (yi y8 : Nat) (yc : Ge) (h0z : List AV) (ui4 : Int) (h0e : List (List AV)) : Option AV :=
  bif decide (ui4 < (↑yi : Int)) then ck (decide (0 ≤ ui4)) <| ck (decide (ui4 < (↑yi : Int))) <| ck (fitK (LK.i .u64) (yc ui4.toNat 0)) <| bif decide (IntKind.i64.wrap (ui4 + 1) < (↑yi : Int)) then ck (decide (0 ≤ IntKind.i64.wrap (ui4 + 1))) <| ck (decide (IntKind.i64.wrap (ui4 + 1) < (↑yi : Int))) <| ck (fitK (LK.i .u64) (yc (IntKind.i64.wrap (ui4 + 1)).toNat 0)) <| ck (decide ((h0e.length + 1) * 8 < 70368744177664)) <| ck (decide (h0e.length + 1 < 4611686018427387904)) <| kn (IntKind.i64.wrap (ui4 + 2)) (h0e ++ [[AV.int .u64 (IntKind.u64.wrap (toI (yc ui4.toNat 0) + IntKind.u64.wrap (4294967296 * toI (yc (IntKind.i64.wrap (ui4 + 1)).toNat 0))))]])
    else ck (decide ((h0e.length + 1) * 8 < 70368744177664)) <| ck (decide (h0e.length + 1 < 4611686018427387904)) <| kn (IntKind.i64.wrap (ui4 + 2)) (h0e ++ [[AV.int .u64 (toI (yc ui4.toNat 0))]])
  else kx0 h0z h0e
noncomputable def gref02_limbs_l0 (qb : Mo) (fuel : Nat) (kx0 : List AV → List (List AV) → Option AV) (yi y8 : Nat) (yc : Ge) (h0z : List AV) : Nat → Int → List (List AV) → Option AV
  | 0,_,_ => none
  | n' + 1,ui4,h0e => gref02_limbs_l0_step qb fuel (gref02_limbs_l0 qb fuel kx0 yi y8 yc h0z n') kx0 yi y8 yc h0z ui4 h0e
noncomputable def Tref02_limbs_0 : TS' := ⟨[(0,TA.ro 1),(3,TA.lst 0 1),(4,TA.i .i64)],[TB.fl 1],[0]⟩
noncomputable def Fref02_limbs_0 (qb : Mo) (fuel : Nat) (ps : List Pay) (K : Ex → St → Option AV) : Option AV := match ps with
  | .n yi :: .n y8 :: .g yc :: .i ui4 :: .z h0z :: .e h0e :: [] => gref02_limbs_l0 qb fuel (fun qcw qcp => K (Ex.exit 0) (Xref02_limbs_0_0 qcw qcp)) yi y8 yc h0z fuel ui4 h0e
  | _ => none
noncomputable def Lref02_limbs (qb : Mo) (fuel : Nat) : Lam AV := [(8589934584,lam Tref02_limbs_0 (Fref02_limbs_0 qb fuel))]
noncomputable def Gref02_limbs (qb : Mo) : Gam := [(63,smM [RS.one (LK.l (nat_lit 1))] qb)]
theorem gref02_limbs_l0_eq (qb : Mo) (fuel : Nat) (kn : St → Option AV) (K : Ex → St → Option AV) (yi y8 : Nat) (yc : Ge) (h0z : List AV) (qnh : Int) (qec : List (List AV)) (ui4 : Int) (h0e : List (List AV)) :
    bX Pr (Gref02_limbs qb) (Lref02_limbs qb fuel) 6 64 0 fuel (Sref02_limbs_0 yi y8 yc ui4 h0z h0e) (fun e s => match e with | .normal => kn (hX Pr 64 0 (Sref02_limbs_0 yi y8 yc qnh h0z qec) s) | e => K e s) =
    gref02_limbs_l0_step qb fuel (fun ui4 h0e => kn (Sref02_limbs_0 yi y8 yc ui4 h0z h0e)) (fun qbb qau => K (Ex.exit 0) (Xref02_limbs_0_0 qbb qau)) yi y8 yc h0z ui4 h0e := by kernel_rfl
theorem gref02_limbs_l0_ok (qb : Mo) (fuel : Nat) (K : Ex → St → Option AV) (yi y8 : Nat) (yc : Ge) (h0z : List AV) (qnh : Int) (qec : List (List AV)) : ∀ (n' : Nat) (ui4 : Int) (h0e : List (List AV)),
    loopK (bX Pr (Gref02_limbs qb) (Lref02_limbs qb fuel) 6 64 0 fuel) (hX Pr 64 0 (Sref02_limbs_0 yi y8 yc qnh h0z qec)) n' (Sref02_limbs_0 yi y8 yc ui4 h0z h0e) K = gref02_limbs_l0 qb fuel (fun qbb qau => K (Ex.exit 0) (Xref02_limbs_0_0 qbb qau)) yi y8 yc h0z n' ui4 h0e
  | 0,_,_ => rfl
  | n' + 1,ui4,h0e => (gref02_limbs_l0_eq qb fuel (fun s => loopK (bX Pr (Gref02_limbs qb) (Lref02_limbs qb fuel) 6 64 0 fuel) (hX Pr 64 0 (Sref02_limbs_0 yi y8 yc qnh h0z qec)) n' s K) K yi y8 yc h0z qnh qec ui4 h0e).trans
    (congrArg (fun kn => gref02_limbs_l0_step qb fuel kn _ yi y8 yc h0z ui4 h0e) (funext fun ui4 => funext fun h0e => gref02_limbs_l0_ok qb fuel K yi y8 yc h0z qnh qec n' ui4 h0e))
theorem gref02_limbs_L0 (qb : Mo) (fuel : Nat) : LX Pr (Gref02_limbs qb) (Lref02_limbs qb fuel) 6 64 0 fuel := by
  refine .of Tref02_limbs_0 (Fref02_limbs_0 qb fuel) (fun L h => ?_) (fun ps st K r he hr => ?_)
  · have e : (Lref02_limbs qb fuel).get (writes (lp Pr 64 0).1) = some (lam Tref02_limbs_0 (Fref02_limbs_0 qb fuel)) := by kernel_rfl
    exact (Option.some.inj (e.symm.trans h)).symm
  · unfold Fref02_limbs_0 at hr
    split at hr
    · obtain rfl := (Option.some.inj he).symm
      exact (gref02_limbs_l0_ok qb fuel K _ _ _ _ _ _ fuel _ _).trans hr
    · cases hr
noncomputable def gref02_limbs (qb : Mo) (fuel qh2 qjj : Nat) (qil : Ge) : Option AV :=
  gref02_limbs_l0 qb fuel
    (fun (qbb : List AV) (qau : List (List AV)) => let r0 : Option AV := qb [AV.ro 1 qau.length qau.length fun (i j : Nat) => (qau.getD i qbb).getD j AV.dead]; ck (okM [RS.one (LK.l 1)] r0) <| some (AV.ro 1 (toN (getV r0)) (toR (getV r0)) (toG (getV r0))))
    qh2
    qjj
    qil
    ([AV.int .u64 0]) fuel (0) ([])
noncomputable def mref02_limbs (qb : Mo) (fuel : Nat) (xs : List AV) : Option AV := match xs with
  | [AV.ro 1 qh2 qjj qil] => gref02_limbs qb fuel qh2 qjj qil
  | _ => none
abbrev Rref02_limbs : List RS := [RS.one (LK.l (nat_lit 1))]
theorem gref02_limbs_sm (qb : Mo) (fuel : Nat) (hΓ : GamOk Pr (Gref02_limbs qb)) (hP : NamesOk Pr) : SmOk Pr 64 (smM Rref02_limbs (mref02_limbs qb fuel)) := smL (L := (Lref02_limbs qb fuel)) (n := 1) hΓ hP (by kernel_rfl) (fun i hi => match i,hi with
  | 0,_ => gref02_limbs_L0 qb fuel
  | i + 1,hi => absurd hi (by omega)) fun xs v h => by
  unfold mref02_limbs at h
  split at h
  · exact Eq.trans (by kernel_rfl) h
  · cases h
noncomputable def Gref02_NatMul (qa z9 qc : Mo) : Gam := [(66,smM [RS.one (LK.l (nat_lit 1))] qa),(65,smM [RS.one (LK.l (nat_lit 1))] z9),(64,smM [RS.one (LK.l (nat_lit 1))] qc)]
noncomputable def gref02_NatMul (qa z9 qc : Mo) (fuel qbz qbx : Nat) (qby : Ge) (qg7 qg2 : Nat) (qga : Ge) : Option AV :=
  let r0 : Option AV := qa [AV.ro 1 qbz qbx qby]; ck (okM [RS.one (LK.l 1)] r0) <| let r1 : Option AV := qa [AV.ro 1 qg7 qg2 qga]; ck (okM [RS.one (LK.l 1)] r1) <| let r2 : Option AV := z9 [AV.ro 1 (toN (getV r0)) (toR (getV r0)) (toG (getV r0)),AV.ro 1 (toN (getV r1)) (toR (getV r1)) (toG (getV r1))]; ck (okM [RS.one (LK.l 1)] r2) <| let r3 : Option AV := qc [AV.ro 1 (toN (getV r2)) (toR (getV r2)) (toG (getV r2))]; ck (okM [RS.one (LK.l 1)] r3) <| some (AV.ro 1 (toN (getV r3)) (toR (getV r3)) (toG (getV r3)))
noncomputable def mref02_NatMul (qa z9 qc : Mo) (fuel : Nat) (xs : List AV) : Option AV := match xs with
  | [AV.ro 1 qbz qbx qby,AV.ro 1 qg7 qg2 qga] => gref02_NatMul qa z9 qc fuel qbz qbx qby qg7 qg2 qga
  | _ => none
abbrev Rref02_NatMul : List RS := [RS.one (LK.l (nat_lit 1))]
theorem gref02_NatMul_sm (qa z9 qc : Mo) (fuel : Nat) (hΓ : GamOk Pr (Gref02_NatMul qa z9 qc)) (hP : NamesOk Pr) : SmOk Pr 46 (smM Rref02_NatMul (mref02_NatMul qa z9 qc fuel)) := sm0 (fuel := fuel) (d := 7) hΓ hP fun xs v h => by
  unfold mref02_NatMul at h
  split at h
  · exact Eq.trans (by kernel_rfl) h
  · cases h
noncomputable def Gref02_Times (vy : Mo) : Gam := [(46,smM [RS.one (LK.l (nat_lit 1))] vy)]
noncomputable def gref02_Times (vy : Mo) (fuel : Nat) (vs : Bool) (zb zc : Nat) (za : Ge) (va : Int) (qar : Bool) (y2 y3 : Nat) (y4 : Ge) (qac : Int) : Option AV :=
  let r0 : Option AV := vy [AV.ro 1 zb zc za,AV.ro 1 y2 y3 y4]; ck (okM [RS.one (LK.l 1)] r0) <| some (AV.agg [AV.bool !vs == qar,AV.ro 1 (toN (getV r0)) (toR (getV r0)) (toG (getV r0)),AV.int .i64 (IntKind.i64.wrap (va + qac))])
noncomputable def mref02_Times (vy : Mo) (fuel : Nat) (xs : List AV) : Option AV := match xs with
  | [AV.agg [AV.bool vs,AV.ro 1 zb zc za,AV.int .i64 va],AV.agg [AV.bool qar,AV.ro 1 y2 y3 y4,AV.int .i64 qac]] => gref02_Times vy fuel vs zb zc za va qar y2 y3 y4 qac
  | _ => none
abbrev Rref02_Times : List RS := [RS.agg [LK.b,LK.l (nat_lit 1),LK.i .i64]]
theorem gref02_Times_sm (vy : Mo) (fuel : Nat) (hΓ : GamOk Pr (Gref02_Times vy)) (hP : NamesOk Pr) : SmOk Pr 22 (smM Rref02_Times (mref02_Times vy fuel)) := sm0 (fuel := fuel) (d := 7) hΓ hP fun xs v h => by
  unfold mref02_Times at h
  split at h
  · exact Eq.trans (by kernel_rfl) h
  · cases h
end Go.Proofs.Tryz
end
section
namespace Go.Proofs.Tryz
open Go Go.Am
set_option linter.unusedVariables false
set_option maxRecDepth 1000000
noncomputable def Slaw19_times_0 (yy y7 : Nat) (v6 : Ge) (uk4 : Int) (vx : Bool) (qc4 : Int) (y1 : Bool) (p2 qah : Nat) (w2 : Ge) (qaj : Int) (h2z : List AV) (h2e : List (List AV)) : St := { env := [(0,AV.ro 3 yy y7 v6),(2,AV.ptr 0 0),(3,AV.ptr 1 0),(4,AV.int .i64 uk4)],h := [Blk.box [AV.bool vx,AV.lst 2 1,AV.int .i64 qc4],Blk.box [AV.bool y1,AV.ro 1 p2 qah w2,AV.int .i64 qaj],Blk.fl 1 h2z h2e],kd := [2] }
noncomputable def Xlaw19_times_0_0 (qds : Bool) (qyf : Int) (qa3 : Bool) (qkq qka : Nat) (qj2 : Ge) (pl : Int) (qtw : List AV) (qre : List (List AV)) : St := { env := [(2,AV.ptr 0 0),(3,AV.ptr 1 0)],h := [Blk.box [AV.bool qds,AV.lst 2 1,AV.int .i64 qyf],Blk.box [AV.bool qa3,AV.ro 1 qkq qka qj2,AV.int .i64 pl],Blk.fl 1 qtw qre],kd := [2] }
noncomputable def glaw19_times_l0_step (qz wd : Mo) (fuel : Nat) (kn : Int → Bool → Nat → Nat → Ge → Int → Option AV) (kx0 : Bool → Int → Bool → Nat → Nat → Ge → Int → List AV → List (List AV) → Option AV) (yy y7 : Nat) (v6 : Ge) (vx : Bool) (qc4 : Int) (h2z : List AV) (h2e : List (List AV)) (uk4 : Int) (y1 : Bool) (p2 qah : Nat) (w2 : Ge) (qaj : Int) : Option AV :=
  bif decide (uk4 < (↑yy : Int)) then ck (decide (0 ≤ uk4)) <| ck (decide (uk4 < (↑yy : Int))) <| ck (fitKs [LK.b,LK.l 1,LK.i .i64] [v6 uk4.toNat 0,v6 uk4.toNat 1,v6 uk4.toNat 2]) <| let r1 : Option AV := wd [AV.agg [AV.bool y1,AV.ro 1 p2 qah w2,AV.int .i64 qaj],AV.agg [AV.bool (toB (v6 uk4.toNat 0)),AV.ro 1 (toN (v6 uk4.toNat 1)) (toR (v6 uk4.toNat 1)) (toG (v6 uk4.toNat 1)),AV.int .i64 (toI (v6 uk4.toNat 2))]]; ck (okM [RS.agg [LK.b,LK.l 1,LK.i .i64]] r1) <| kn (IntKind.i64.wrap (uk4 + 1)) (toB ((toC (getV r1)).headD .dead)) (toN ((toC (getV r1)).tail.headD .dead)) (toR ((toC (getV r1)).tail.headD .dead)) (toG ((toC (getV r1)).tail.headD .dead)) (toI ((toC (getV r1)).tail.tail.headD .dead))
  else kx0 vx qc4 y1 p2 qah w2 qaj h2z h2e
noncomputable def glaw19_times_l0 (qz wd : Mo) (fuel : Nat) (kx0 : Bool → Int → Bool → Nat → Nat → Ge → Int → List AV → List (List AV) → Option AV) (yy y7 : Nat) (v6 : Ge) (vx : Bool) (qc4 : Int) (h2z : List AV) (h2e : List (List AV)) : Nat → Int → Bool → Nat → Nat → Ge → Int → Option AV
  | 0,_,_,_,_,_,_ => none
  | n' + 1,uk4,y1,p2,qah,w2,qaj => glaw19_times_l0_step qz wd fuel (glaw19_times_l0 qz wd fuel kx0 yy y7 v6 vx qc4 h2z h2e n') kx0 yy y7 v6 vx qc4 h2z h2e uk4 y1 p2 qah w2 qaj
termination_by structural k => k
noncomputable def Tlaw19_times_0 : TS' := ⟨[(0,TA.ro 3),(2,TA.ptr 0 0),(3,TA.ptr 1 0),(4,TA.i .i64)],[TB.box [TA.b,TA.lst 2 1,TA.i .i64],TB.box [TA.b,TA.ro 1,TA.i .i64],TB.fl 1],[2]⟩
noncomputable def Flaw19_times_0 (qz wd : Mo) (fuel : Nat) (ps : List Pay) (K : Ex → St → Option AV) : Option AV := match ps with
  | .n yy :: .n y7 :: .g v6 :: .i uk4 :: .b vx :: .i qc4 :: .b y1 :: .n p2 :: .n qah :: .g w2 :: .i qaj :: .z h2z :: .e h2e :: [] => glaw19_times_l0 qz wd fuel (fun qds qyf qa3 qkq qka qj2 pl qtw qre => K (Ex.exit 0) (Xlaw19_times_0_0 qds qyf qa3 qkq qka qj2 pl qtw qre)) yy y7 v6 vx qc4 h2z h2e fuel uk4 y1 p2 qah w2 qaj
  | _ => none
noncomputable def Llaw19_times (qz wd : Mo) (fuel : Nat) : Lam AV := [(262096,lam Tlaw19_times_0 (Flaw19_times_0 qz wd fuel))]
noncomputable def Glaw19_times (qz wd : Mo) : Gam := [(21,smM [RS.agg [LK.b,LK.l (nat_lit 1),LK.i .i64]] qz),(22,smM [RS.agg [LK.b,LK.l (nat_lit 1),LK.i .i64]] wd)]
theorem glaw19_times_l0_eq (qz wd : Mo) (fuel : Nat) (kn : St → Option AV) (K : Ex → St → Option AV) (yy y7 : Nat) (v6 : Ge) (vx : Bool) (qc4 : Int) (h2z : List AV) (h2e : List (List AV)) (q2o : Int) (qjf : Bool) (qgo qg4 : Nat) (qgm : Ge) (qjg uk4 : Int) (y1 : Bool) (p2 qah : Nat) (w2 : Ge) (qaj : Int) :
    bX Pr (Glaw19_times qz wd) (Llaw19_times qz wd fuel) 6 8 0 fuel (Slaw19_times_0 yy y7 v6 uk4 vx qc4 y1 p2 qah w2 qaj h2z h2e) (fun e s => match e with | .normal => kn (hX Pr 8 0 (Slaw19_times_0 yy y7 v6 q2o vx qc4 qjf qgo qg4 qgm qjg h2z h2e) s) | e => K e s) =
    glaw19_times_l0_step qz wd fuel (fun uk4 y1 p2 qah w2 qaj => kn (Slaw19_times_0 yy y7 v6 uk4 vx qc4 y1 p2 qah w2 qaj h2z h2e)) (fun zk xh0_2 qbl vq vp vr qc6 qhf qhg => K (Ex.exit 0) (Xlaw19_times_0_0 zk xh0_2 qbl vq vp vr qc6 qhf qhg)) yy y7 v6 vx qc4 h2z h2e uk4 y1 p2 qah w2 qaj := by kernel_rfl
theorem glaw19_times_l0_ok (qz wd : Mo) (fuel : Nat) (K : Ex → St → Option AV) (yy y7 : Nat) (v6 : Ge) (vx : Bool) (qc4 : Int) (h2z : List AV) (h2e : List (List AV)) (q2o : Int) (qjf : Bool) (qgo qg4 : Nat) (qgm : Ge) (qjg : Int) : ∀ (n' : Nat) (uk4 : Int) (y1 : Bool) (p2 qah : Nat) (w2 : Ge) (qaj : Int),
    loopK (bX Pr (Glaw19_times qz wd) (Llaw19_times qz wd fuel) 6 8 0 fuel) (hX Pr 8 0 (Slaw19_times_0 yy y7 v6 q2o vx qc4 qjf qgo qg4 qgm qjg h2z h2e)) n' (Slaw19_times_0 yy y7 v6 uk4 vx qc4 y1 p2 qah w2 qaj h2z h2e) K = glaw19_times_l0 qz wd fuel (fun zk xh0_2 qbl vq vp vr qc6 qhf qhg => K (Ex.exit 0) (Xlaw19_times_0_0 zk xh0_2 qbl vq vp vr qc6 qhf qhg)) yy y7 v6 vx qc4 h2z h2e n' uk4 y1 p2 qah w2 qaj
  | 0,_,_,_,_,_,_ => rfl
  | n' + 1,uk4,y1,p2,qah,w2,qaj => (glaw19_times_l0_eq qz wd fuel (fun s => loopK (bX Pr (Glaw19_times qz wd) (Llaw19_times qz wd fuel) 6 8 0 fuel) (hX Pr 8 0 (Slaw19_times_0 yy y7 v6 q2o vx qc4 qjf qgo qg4 qgm qjg h2z h2e)) n' s K) K yy y7 v6 vx qc4 h2z h2e q2o qjf qgo qg4 qgm qjg uk4 y1 p2 qah w2 qaj).trans
    (congrArg (fun kn => glaw19_times_l0_step qz wd fuel kn _ yy y7 v6 vx qc4 h2z h2e uk4 y1 p2 qah w2 qaj) (funext fun uk4 => funext fun y1 => funext fun p2 => funext fun qah => funext fun w2 => funext fun qaj => glaw19_times_l0_ok qz wd fuel K yy y7 v6 vx qc4 h2z h2e q2o qjf qgo qg4 qgm qjg n' uk4 y1 p2 qah w2 qaj))
theorem glaw19_times_L0 (qz wd : Mo) (fuel : Nat) : LX Pr (Glaw19_times qz wd) (Llaw19_times qz wd fuel) 6 8 0 fuel := by
  refine .of Tlaw19_times_0 (Flaw19_times_0 qz wd fuel) (fun L h => ?_) (fun ps st K r he hr => ?_)
  · have e : (Llaw19_times qz wd fuel).get (writes (lp Pr 8 0).1) = some (lam Tlaw19_times_0 (Flaw19_times_0 qz wd fuel)) := by kernel_rfl
    exact (Option.some.inj (e.symm.trans h)).symm
  · unfold Flaw19_times_0 at hr
    split at hr
    · obtain rfl := (Option.some.inj he).symm
      exact (glaw19_times_l0_ok qz wd fuel K _ _ _ _ _ _ _ _ _ _ _ _ _ fuel _ _ _ _ _ _).trans hr
    · cases hr
noncomputable def glaw19_times (qz wd : Mo) (fuel yp qai : Nat) (pn : Ge) : Option AV :=
  let r0 : Option AV := qz [AV.int .i64 1]; ck (okM [RS.agg [LK.b,LK.l 1,LK.i .i64]] r0) <| glaw19_times_l0 qz wd fuel
    (fun (_ : Bool) (_ : Int) (qbl : Bool) (vq vp : Nat) (vr : Ge) (qc6 : Int) (_ : List AV) (_ : List (List AV)) => some (AV.agg [AV.bool qbl,AV.ro 1 vq vp vr,AV.int .i64 qc6]))
    yp
    qai
    pn
    false
    (0)
    ([AV.int .u64 0])
    ([]) fuel (0) (toB ((toC (getV r0)).headD .dead)) (toN ((toC (getV r0)).tail.headD .dead)) (toR ((toC (getV r0)).tail.headD .dead)) (toG ((toC (getV r0)).tail.headD .dead)) (toI ((toC (getV r0)).tail.tail.headD .dead))
noncomputable def mlaw19_times (qz wd : Mo) (fuel : Nat) (xs : List AV) : Option AV := match xs with
  | [AV.ro 3 yp qai pn] => glaw19_times qz wd fuel yp qai pn
  | _ => none
abbrev Rlaw19_times : List RS := [RS.agg [LK.b,LK.l (nat_lit 1),LK.i .i64]]
theorem glaw19_times_sm (qz wd : Mo) (fuel : Nat) (hΓ : GamOk Pr (Glaw19_times qz wd)) (hP : NamesOk Pr) : SmOk Pr 8 (smM Rlaw19_times (mlaw19_times qz wd fuel)) := smL (L := (Llaw19_times qz wd fuel)) (n := 1) hΓ hP (by kernel_rfl) (fun i hi => match i,hi with
  | 0,_ => glaw19_times_L0 qz wd fuel
  | i + 1,hi => absurd hi (by omega)) fun xs v h => by
  unfold mlaw19_times at h
  split at h
  · exact Eq.trans (by kernel_rfl) h
  · cases h
noncomputable def Glaw19_true2 (qz qi qh : Mo) : Gam := [(21,smM [RS.agg [LK.b,LK.l (nat_lit 1),LK.i .i64]] qz),(9,smM [RS.agg [LK.b,LK.l (nat_lit 1),LK.i .i64]] qi),(8,smM [RS.agg [LK.b,LK.l (nat_lit 1),LK.i .i64]] qh)]
noncomputable def glaw19_true2 (qz qi qh : Mo) (fuel : Nat) (qha : ByteArray) (qd4 qfg qhe : Int) (qep qe3 : Bool) (qfs qf4 qe0 : Option Nat) (l21 qtb : Int) : Option AV :=
  let r0 : Option AV := qz [AV.int .i64 l21]; ck (okM [RS.agg [LK.b,LK.l 1,LK.i .i64]] r0) <| let r1 : Option AV := qi [AV.flt .f64 qfs]; ck (okM [RS.agg [LK.b,LK.l 1,LK.i .i64]] r1) <| let r2 : Option AV := qi [AV.flt .f64 qe0]; ck (okM [RS.agg [LK.b,LK.l 1,LK.i .i64]] r2) <| let r3 : Option AV := qh [AV.ro 3 2 2 fun (i j : Nat) => ([[AV.bool (toB ((toC (getV r1)).headD .dead)),AV.ro 1 (toN ((toC (getV r1)).tail.headD .dead)) (toR ((toC (getV r1)).tail.headD .dead)) (toG ((toC (getV r1)).tail.headD .dead)),AV.int .i64 (toI ((toC (getV r1)).tail.tail.headD .dead))],[AV.bool (toB ((toC (getV r2)).headD .dead)),AV.ro 1 (toN ((toC (getV r2)).tail.headD .dead)) (toR ((toC (getV r2)).tail.headD .dead)) (toG ((toC (getV r2)).tail.headD .dead)),AV.int .i64 (toI ((toC (getV r2)).tail.tail.headD .dead))]].getD i []).getD j AV.dead]; ck (okM [RS.agg [LK.b,LK.l 1,LK.i .i64]] r3) <| bif qtb == 1 then let r4 : Option AV := qi [AV.flt .f64 qfs]; ck (okM [RS.agg [LK.b,LK.l 1,LK.i .i64]] r4) <| let r5 : Option AV := qi [AV.flt .f64 qf4]; ck (okM [RS.agg [LK.b,LK.l 1,LK.i .i64]] r5) <| let r6 : Option AV := qh [AV.ro 3 2 2 fun (i j : Nat) => ([[AV.bool (toB ((toC (getV r4)).headD .dead)),AV.ro 1 (toN ((toC (getV r4)).tail.headD .dead)) (toR ((toC (getV r4)).tail.headD .dead)) (toG ((toC (getV r4)).tail.headD .dead)),AV.int .i64 (toI ((toC (getV r4)).tail.tail.headD .dead))],[AV.bool (toB ((toC (getV r5)).headD .dead)),AV.ro 1 (toN ((toC (getV r5)).tail.headD .dead)) (toR ((toC (getV r5)).tail.headD .dead)) (toG ((toC (getV r5)).tail.headD .dead)),AV.int .i64 (toI ((toC (getV r5)).tail.tail.headD .dead))]].getD i []).getD j AV.dead]; ck (okM [RS.agg [LK.b,LK.l 1,LK.i .i64]] r6) <| let r7 : Option AV := qh [AV.ro 3 2 2 fun (i j : Nat) => ([[AV.bool (toB ((toC (getV r6)).headD .dead)),AV.ro 1 (toN ((toC (getV r6)).tail.headD .dead)) (toR ((toC (getV r6)).tail.headD .dead)) (toG ((toC (getV r6)).tail.headD .dead)),AV.int .i64 (toI ((toC (getV r6)).tail.tail.headD .dead))],[AV.bool (toB ((toC (getV r6)).headD .dead)),AV.ro 1 (toN ((toC (getV r6)).tail.headD .dead)) (toR ((toC (getV r6)).tail.headD .dead)) (toG ((toC (getV r6)).tail.headD .dead)),AV.int .i64 (toI ((toC (getV r6)).tail.tail.headD .dead))]].getD i []).getD j AV.dead]; ck (okM [RS.agg [LK.b,LK.l 1,LK.i .i64]] r7) <| let r8 : Option AV := qh [AV.ro 3 3 3 fun (i j : Nat) => ([[AV.bool (toB ((toC (getV r0)).headD .dead)),AV.ro 1 (toN ((toC (getV r0)).tail.headD .dead)) (toR ((toC (getV r0)).tail.headD .dead)) (toG ((toC (getV r0)).tail.headD .dead)),AV.int .i64 (toI ((toC (getV r0)).tail.tail.headD .dead))],[AV.bool (toB ((toC (getV r0)).headD .dead)),AV.ro 1 (toN ((toC (getV r0)).tail.headD .dead)) (toR ((toC (getV r0)).tail.headD .dead)) (toG ((toC (getV r0)).tail.headD .dead)),AV.int .i64 (toI ((toC (getV r0)).tail.tail.headD .dead))],[AV.bool (toB ((toC (getV r0)).headD .dead)),AV.ro 1 (toN ((toC (getV r0)).tail.headD .dead)) (toR ((toC (getV r0)).tail.headD .dead)) (toG ((toC (getV r0)).tail.headD .dead)),AV.int .i64 (toI ((toC (getV r0)).tail.tail.headD .dead))]].getD i []).getD j AV.dead]; ck (okM [RS.agg [LK.b,LK.l 1,LK.i .i64]] r8) <| some (AV.tup [AV.agg [AV.bool (toB ((toC (getV r7)).headD .dead)),AV.ro 1 (toN ((toC (getV r7)).tail.headD .dead)) (toR ((toC (getV r7)).tail.headD .dead)) (toG ((toC (getV r7)).tail.headD .dead)),AV.int .i64 (toI ((toC (getV r7)).tail.tail.headD .dead))],AV.agg [AV.bool (toB ((toC (getV r8)).headD .dead)),AV.ro 1 (toN ((toC (getV r8)).tail.headD .dead)) (toR ((toC (getV r8)).tail.headD .dead)) (toG ((toC (getV r8)).tail.headD .dead)),AV.int .i64 (toI ((toC (getV r8)).tail.tail.headD .dead))]])
  else bif qtb == 3 then let r9 : Option AV := qh [AV.ro 3 2 2 fun (i j : Nat) => ([[AV.bool (toB ((toC (getV r3)).headD .dead)),AV.ro 1 (toN ((toC (getV r3)).tail.headD .dead)) (toR ((toC (getV r3)).tail.headD .dead)) (toG ((toC (getV r3)).tail.headD .dead)),AV.int .i64 (toI ((toC (getV r3)).tail.tail.headD .dead))],[AV.bool (toB ((toC (getV r3)).headD .dead)),AV.ro 1 (toN ((toC (getV r3)).tail.headD .dead)) (toR ((toC (getV r3)).tail.headD .dead)) (toG ((toC (getV r3)).tail.headD .dead)),AV.int .i64 (toI ((toC (getV r3)).tail.tail.headD .dead))]].getD i []).getD j AV.dead]; ck (okM [RS.agg [LK.b,LK.l 1,LK.i .i64]] r9) <| some (AV.tup [AV.agg [AV.bool (toB ((toC (getV r9)).headD .dead)),AV.ro 1 (toN ((toC (getV r9)).tail.headD .dead)) (toR ((toC (getV r9)).tail.headD .dead)) (toG ((toC (getV r9)).tail.headD .dead)),AV.int .i64 (toI ((toC (getV r9)).tail.tail.headD .dead))],AV.agg [AV.bool (toB ((toC (getV r0)).headD .dead)),AV.ro 1 (toN ((toC (getV r0)).tail.headD .dead)) (toR ((toC (getV r0)).tail.headD .dead)) (toG ((toC (getV r0)).tail.headD .dead)),AV.int .i64 (toI ((toC (getV r0)).tail.tail.headD .dead))]])
  else let r10 : Option AV := qz [AV.int .i64 9]; ck (okM [RS.agg [LK.b,LK.l 1,LK.i .i64]] r10) <| let r11 : Option AV := qh [AV.ro 3 3 3 fun (i j : Nat) => ([[AV.bool (toB ((toC (getV r10)).headD .dead)),AV.ro 1 (toN ((toC (getV r10)).tail.headD .dead)) (toR ((toC (getV r10)).tail.headD .dead)) (toG ((toC (getV r10)).tail.headD .dead)),AV.int .i64 (toI ((toC (getV r10)).tail.tail.headD .dead))],[AV.bool (toB ((toC (getV r3)).headD .dead)),AV.ro 1 (toN ((toC (getV r3)).tail.headD .dead)) (toR ((toC (getV r3)).tail.headD .dead)) (toG ((toC (getV r3)).tail.headD .dead)),AV.int .i64 (toI ((toC (getV r3)).tail.tail.headD .dead))],[AV.bool (toB ((toC (getV r3)).headD .dead)),AV.ro 1 (toN ((toC (getV r3)).tail.headD .dead)) (toR ((toC (getV r3)).tail.headD .dead)) (toG ((toC (getV r3)).tail.headD .dead)),AV.int .i64 (toI ((toC (getV r3)).tail.tail.headD .dead))]].getD i []).getD j AV.dead]; ck (okM [RS.agg [LK.b,LK.l 1,LK.i .i64]] r11) <| let r12 : Option AV := qh [AV.ro 3 5 5 fun (i j : Nat) => ([[AV.bool (toB ((toC (getV r0)).headD .dead)),AV.ro 1 (toN ((toC (getV r0)).tail.headD .dead)) (toR ((toC (getV r0)).tail.headD .dead)) (toG ((toC (getV r0)).tail.headD .dead)),AV.int .i64 (toI ((toC (getV r0)).tail.tail.headD .dead))],[AV.bool (toB ((toC (getV r0)).headD .dead)),AV.ro 1 (toN ((toC (getV r0)).tail.headD .dead)) (toR ((toC (getV r0)).tail.headD .dead)) (toG ((toC (getV r0)).tail.headD .dead)),AV.int .i64 (toI ((toC (getV r0)).tail.tail.headD .dead))],[AV.bool (toB ((toC (getV r0)).headD .dead)),AV.ro 1 (toN ((toC (getV r0)).tail.headD .dead)) (toR ((toC (getV r0)).tail.headD .dead)) (toG ((toC (getV r0)).tail.headD .dead)),AV.int .i64 (toI ((toC (getV r0)).tail.tail.headD .dead))],[AV.bool (toB ((toC (getV r0)).headD .dead)),AV.ro 1 (toN ((toC (getV r0)).tail.headD .dead)) (toR ((toC (getV r0)).tail.headD .dead)) (toG ((toC (getV r0)).tail.headD .dead)),AV.int .i64 (toI ((toC (getV r0)).tail.tail.headD .dead))],[AV.bool (toB ((toC (getV r0)).headD .dead)),AV.ro 1 (toN ((toC (getV r0)).tail.headD .dead)) (toR ((toC (getV r0)).tail.headD .dead)) (toG ((toC (getV r0)).tail.headD .dead)),AV.int .i64 (toI ((toC (getV r0)).tail.tail.headD .dead))]].getD i []).getD j AV.dead]; ck (okM [RS.agg [LK.b,LK.l 1,LK.i .i64]] r12) <| some (AV.tup [AV.agg [AV.bool (toB ((toC (getV r11)).headD .dead)),AV.ro 1 (toN ((toC (getV r11)).tail.headD .dead)) (toR ((toC (getV r11)).tail.headD .dead)) (toG ((toC (getV r11)).tail.headD .dead)),AV.int .i64 (toI ((toC (getV r11)).tail.tail.headD .dead))],AV.agg [AV.bool (toB ((toC (getV r12)).headD .dead)),AV.ro 1 (toN ((toC (getV r12)).tail.headD .dead)) (toR ((toC (getV r12)).tail.headD .dead)) (toG ((toC (getV r12)).tail.headD .dead)),AV.int .i64 (toI ((toC (getV r12)).tail.tail.headD .dead))]])
noncomputable def mlaw19_true2 (qz qi qh : Mo) (fuel : Nat) (xs : List AV) : Option AV := match xs with
  | [AV.agg [AV.str qha,AV.int .u8 qd4,AV.int .i64 qfg,AV.int .i64 qhe,AV.bool qep,AV.bool qe3,AV.flt .f64 qfs,AV.flt .f64 qf4,AV.flt .f64 qe0],AV.int .i64 l21,AV.int .u8 qtb] => glaw19_true2 qz qi qh fuel qha qd4 qfg qhe qep qe3 qfs qf4 qe0 l21 qtb
  | _ => none
abbrev Rlaw19_true2 : List RS := [RS.agg [LK.b,LK.l (nat_lit 1),LK.i .i64],RS.agg [LK.b,LK.l (nat_lit 1),LK.i .i64]]
theorem glaw19_true2_sm (qz qi qh : Mo) (fuel : Nat) (hΓ : GamOk Pr (Glaw19_true2 qz qi qh)) (hP : NamesOk Pr) : SmOk Pr 7 (smM Rlaw19_true2 (mlaw19_true2 qz qi qh fuel)) := sm0 (fuel := fuel) (d := 7) hΓ hP fun xs v h => by
  unfold mlaw19_true2 at h
  split at h
  · exact Eq.trans (by kernel_rfl) h
  · cases h
noncomputable def Sref02_NatBits_0 (un4 qii : Int) : St := { env := [(4,AV.int .i64 un4),(5,AV.int .u64 qii)],h := [],kd := [] }
noncomputable def Xref02_NatBits_0_0 (qug : Int) : St := { env := [(4,AV.int .i64 qug)],h := [],kd := [] }
noncomputable def gref02_NatBits_l0_step (qb : Mo) (fuel : Nat) (kn : Int → Int → Option AV) (kx0 : Int → Option AV) (un4 qii : Int) : Option AV :=
  bif decide (qii > 0) then kn (IntKind.i64.wrap (un4 + 1)) (IntKind.u64.wrap (qii.tdiv 2))
  else kx0 un4
noncomputable def gref02_NatBits_l0 (qb : Mo) (fuel : Nat) (kx0 : Int → Option AV) : Nat → Int → Int → Option AV
  | 0,_,_ => none
  | n' + 1,un4,qii => gref02_NatBits_l0_step qb fuel (gref02_NatBits_l0 qb fuel kx0 n') kx0 un4 qii
noncomputable def Tref02_NatBits_0 : TS' := ⟨[(4,TA.i .i64),(5,TA.i .u64)],[],[]⟩
noncomputable def Fref02_NatBits_0 (qb : Mo) (fuel : Nat) (ps : List Pay) (K : Ex → St → Option AV) : Option AV := match ps with
  | .i un4 :: .i qii :: [] => gref02_NatBits_l0 qb fuel (fun qug => K (Ex.exit 0) (Xref02_NatBits_0_0 qug)) fuel un4 qii
  | _ => none
noncomputable def Lref02_NatBits (qb : Mo) (fuel : Nat) : Lam AV := [(132120624,lam Tref02_NatBits_0 (Fref02_NatBits_0 qb fuel))]
noncomputable def Gref02_NatBits (qb : Mo) : Gam := [(63,smM [RS.one (LK.l (nat_lit 1))] qb)]
theorem gref02_NatBits_l0_eq (qb : Mo) (fuel : Nat) (kn : St → Option AV) (K : Ex → St → Option AV) (qn7 qwd : Int) (un4 qii : Int) :
    bX Pr (Gref02_NatBits qb) (Lref02_NatBits qb fuel) 6 49 0 fuel (Sref02_NatBits_0 un4 qii) (fun e s => match e with | .normal => kn (hX Pr 49 0 (Sref02_NatBits_0 qn7 qwd) s) | e => K e s) =
    gref02_NatBits_l0_step qb fuel (fun un4 qii => kn (Sref02_NatBits_0 un4 qii)) (fun qip => K (Ex.exit 0) (Xref02_NatBits_0_0 qip)) un4 qii := by kernel_rfl
theorem gref02_NatBits_l0_ok (qb : Mo) (fuel : Nat) (K : Ex → St → Option AV) (qn7 qwd : Int) : ∀ (n' : Nat) (un4 qii : Int),
    loopK (bX Pr (Gref02_NatBits qb) (Lref02_NatBits qb fuel) 6 49 0 fuel) (hX Pr 49 0 (Sref02_NatBits_0 qn7 qwd)) n' (Sref02_NatBits_0 un4 qii) K = gref02_NatBits_l0 qb fuel (fun qip => K (Ex.exit 0) (Xref02_NatBits_0_0 qip)) n' un4 qii
  | 0,_,_ => rfl
  | n' + 1,un4,qii => (gref02_NatBits_l0_eq qb fuel (fun s => loopK (bX Pr (Gref02_NatBits qb) (Lref02_NatBits qb fuel) 6 49 0 fuel) (hX Pr 49 0 (Sref02_NatBits_0 qn7 qwd)) n' s K) K qn7 qwd un4 qii).trans
    (congrArg (fun kn => gref02_NatBits_l0_step qb fuel kn _ un4 qii) (funext fun un4 => funext fun qii => gref02_NatBits_l0_ok qb fuel K qn7 qwd n' un4 qii))
theorem gref02_NatBits_L0 (qb : Mo) (fuel : Nat) : LX Pr (Gref02_NatBits qb) (Lref02_NatBits qb fuel) 6 49 0 fuel := by
  refine .of Tref02_NatBits_0 (Fref02_NatBits_0 qb fuel) (fun L h => ?_) (fun ps st K r he hr => ?_)
  · have e : (Lref02_NatBits qb fuel).get (writes (lp Pr 49 0).1) = some (lam Tref02_NatBits_0 (Fref02_NatBits_0 qb fuel)) := by kernel_rfl
    exact (Option.some.inj (e.symm.trans h)).symm
  · unfold Fref02_NatBits_0 at hr
    split at hr
    · obtain rfl := (Option.some.inj he).symm
      exact (gref02_NatBits_l0_ok qb fuel K _ _ fuel _ _).trans hr
    · cases hr
noncomputable def gref02_NatBits (qb : Mo) (fuel qbz qbx : Nat) (qby : Ge) : Option AV :=
  let r0 : Option AV := qb [AV.ro 1 qbz qbx qby]; ck (okM [RS.one (LK.l 1)] r0) <| bif (↑(toN (getV r0)) : Int) == 0 then some (AV.int .i64 0)
  else ck (decide (0 ≤ IntKind.i64.wrap ((↑(toN (getV r0)) : Int) - 1))) <| ck (decide (IntKind.i64.wrap ((↑(toN (getV r0)) : Int) - 1) < (↑(toN (getV r0)) : Int))) <| ck (fitK (LK.i .u64) (toG (getV r0) (IntKind.i64.wrap ((↑(toN (getV r0)) : Int) - 1)).toNat 0)) <| gref02_NatBits_l0 qb fuel
    (fun (qip : Int) => some (AV.int .i64 qip)) fuel (IntKind.i64.wrap (64 * IntKind.i64.wrap ((↑(toN (getV r0)) : Int) - 1))) (toI (toG (getV r0) (IntKind.i64.wrap ((↑(toN (getV r0)) : Int) - 1)).toNat 0))
noncomputable def mref02_NatBits (qb : Mo) (fuel : Nat) (xs : List AV) : Option AV := match xs with
  | [AV.ro 1 qbz qbx qby] => gref02_NatBits qb fuel qbz qbx qby
  | _ => none
abbrev Rref02_NatBits : List RS := [RS.one (LK.i .i64)]
theorem gref02_NatBits_sm (qb : Mo) (fuel : Nat) (hΓ : GamOk Pr (Gref02_NatBits qb)) (hP : NamesOk Pr) : SmOk Pr 49 (smM Rref02_NatBits (mref02_NatBits qb fuel)) := smL (L := (Lref02_NatBits qb fuel)) (n := 1) hΓ hP (by kernel_rfl) (fun i hi => match i,hi with
  | 0,_ => gref02_NatBits_L0 qb fuel
  | i + 1,hi => absurd hi (by omega)) fun xs v h => by
  unfold mref02_NatBits at h
  split at h
  · exact Eq.trans (by kernel_rfl) h
  · cases h
noncomputable def Gref02_Num_Zero (wk : Mo) : Gam := [(49,smM [RS.one (LK.i .i64)] wk)]
noncomputable def gref02_Num_Zero (wk : Mo) (fuel : Nat) (vs : Bool) (zb zc : Nat) (za : Ge) (va : Int) : Option AV :=
  ck (okM [RS.one (LK.i .i64)] (wk [AV.ro 1 zb zc za])) <| some (AV.bool (toI (getV (wk [AV.ro 1 zb zc za])) == 0))
noncomputable def mref02_Num_Zero (wk : Mo) (fuel : Nat) (xs : List AV) : Option AV := match xs with
  | [AV.agg [AV.bool vs,AV.ro 1 zb zc za,AV.int .i64 va]] => gref02_Num_Zero wk fuel vs zb zc za va
  | _ => none
abbrev Rref02_Num_Zero : List RS := [RS.one LK.b]
theorem gref02_Num_Zero_sm (wk : Mo) (fuel : Nat) (hΓ : GamOk Pr (Gref02_Num_Zero wk)) (hP : NamesOk Pr) : SmOk Pr 48 (smM Rref02_Num_Zero (mref02_Num_Zero wk fuel)) := sm0 (fuel := fuel) (d := 7) hΓ hP fun xs v h => by
  unfold mref02_Num_Zero at h
  split at h
  · exact Eq.trans (by kernel_rfl) h
  · cases h
noncomputable def Gref02_Num_Sign (q1 : Mo) : Gam := [(48,smM [RS.one LK.b] q1)]
noncomputable def gref02_Num_Sign (q1 : Mo) (fuel : Nat) (vs : Bool) (zb zc : Nat) (za : Ge) (va : Int) : Option AV :=
  ck (okM [RS.one LK.b] (q1 [AV.agg [AV.bool vs,AV.ro 1 zb zc za,AV.int .i64 va]])) <| bif toB (getV (q1 [AV.agg [AV.bool vs,AV.ro 1 zb zc za,AV.int .i64 va]])) then some (AV.int .i64 0)
  else bif vs then some (AV.int .i64 (-1))
  else some (AV.int .i64 1)
noncomputable def mref02_Num_Sign (q1 : Mo) (fuel : Nat) (xs : List AV) : Option AV := match xs with
  | [AV.agg [AV.bool vs,AV.ro 1 zb zc za,AV.int .i64 va]] => gref02_Num_Sign q1 fuel vs zb zc za va
  | _ => none
abbrev Rref02_Num_Sign : List RS := [RS.one (LK.i .i64)]
theorem gref02_Num_Sign_sm (q1 : Mo) (fuel : Nat) (hΓ : GamOk Pr (Gref02_Num_Sign q1)) (hP : NamesOk Pr) : SmOk Pr 24 (smM Rref02_Num_Sign (mref02_Num_Sign q1 fuel)) := sm0 (fuel := fuel) (d := 7) hΓ hP fun xs v h => by
  unfold mref02_Num_Sign at h
  split at h
  · exact Eq.trans (by kernel_rfl) h
  · cases h
noncomputable def Gref02_Num_top (wk : Mo) : Gam := [(49,smM [RS.one (LK.i .i64)] wk)]
noncomputable def gref02_Num_top (wk : Mo) (fuel : Nat) (vs : Bool) (zb zc : Nat) (za : Ge) (va : Int) : Option AV :=
  ck (okM [RS.one (LK.i .i64)] (wk [AV.ro 1 zb zc za])) <| some (AV.int .i64 (IntKind.i64.wrap (va + toI (getV (wk [AV.ro 1 zb zc za])))))
noncomputable def mref02_Num_top (wk : Mo) (fuel : Nat) (xs : List AV) : Option AV := match xs with
  | [AV.agg [AV.bool vs,AV.ro 1 zb zc za,AV.int .i64 va]] => gref02_Num_top wk fuel vs zb zc za va
  | _ => none
abbrev Rref02_Num_top : List RS := [RS.one (LK.i .i64)]
theorem gref02_Num_top_sm (wk : Mo) (fuel : Nat) (hΓ : GamOk Pr (Gref02_Num_top wk)) (hP : NamesOk Pr) : SmOk Pr 25 (smM Rref02_Num_top (mref02_Num_top wk fuel)) := sm0 (fuel := fuel) (d := 7) hΓ hP fun xs v h => by
  unfold mref02_Num_top at h
  split at h
  · exact Eq.trans (by kernel_rfl) h
  · cases h
noncomputable def Gref02_Minus : Gam := []
noncomputable def gref02_Minus (fuel : Nat) (vs : Bool) (zb zc : Nat) (za : Ge) (va : Int) : Option AV :=
  some (AV.agg [AV.bool !vs,AV.ro 1 zb zc za,AV.int .i64 va])
noncomputable def mref02_Minus (fuel : Nat) (xs : List AV) : Option AV := match xs with
  | [AV.agg [AV.bool vs,AV.ro 1 zb zc za,AV.int .i64 va]] => gref02_Minus fuel vs zb zc za va
  | _ => none
abbrev Rref02_Minus : List RS := [RS.agg [LK.b,LK.l (nat_lit 1),LK.i .i64]]
theorem gref02_Minus_sm (fuel : Nat) (hΓ : GamOk Pr Gref02_Minus) (hP : NamesOk Pr) : SmOk Pr 27 (smM Rref02_Minus (mref02_Minus fuel)) := sm0 (fuel := fuel) (d := 7) hΓ hP fun xs v h => by
  unfold mref02_Minus at h
  split at h
  · exact Eq.trans (by kernel_rfl) h
  · cases h
noncomputable def Sref02_NatUp_0 (qfe : Int) (qiq qic : Nat) (qik : Ge) (qez qex qfb : Nat) (yv by8 ui9 : Int) (h0z : List AV) (h0e : List (List AV)) : St := { env := [(1,AV.int .i64 qfe),(5,AV.ro 1 qiq qic qik),(6,AV.own 0 qez 1 qex qfb),(7,AV.int .u64 yv),(8,AV.int .u64 by8),(9,AV.int .i64 ui9)],h := [Blk.fx 1 h0z h0e],kd := [] }
noncomputable def Xref02_NatUp_0_0 (qwm qxw : Nat) (qw4 : Ge) (qrs qsq qvb : Nat) (qmj q0m : Int) (qcw : List AV) (qcp : List (List AV)) : St := { env := [(5,AV.ro 1 qwm qxw qw4),(6,AV.own 0 qrs 1 qsq qvb),(7,AV.int .u64 qmj),(8,AV.int .u64 q0m)],h := [Blk.fx 1 qcw qcp],kd := [] }
noncomputable def gref02_NatUp_l0_step (qa qc : Mo) (fuel : Nat) (kn : Int → Int → Option AV) (kx0 : Nat → Nat → Ge → Nat → Nat → Nat → Int → Int → List AV → List (List AV) → Option AV) (qfe : Int) (qiq qic : Nat) (qik : Ge) (qez qex qfb : Nat) (yv : Int) (h0z : List AV) (h0e : List (List AV)) (by8 ui9 : Int) : Option AV :=
  bif decide (ui9 < qfe.tmod 32) then kn (IntKind.u64.wrap (2 * by8)) (IntKind.i64.wrap (ui9 + 1))
  else kx0 qiq qic qik qez qex qfb yv by8 h0z h0e
noncomputable def gref02_NatUp_l0 (qa qc : Mo) (fuel : Nat) (kx0 : Nat → Nat → Ge → Nat → Nat → Nat → Int → Int → List AV → List (List AV) → Option AV) (qfe : Int) (qiq qic : Nat) (qik : Ge) (qez qex qfb : Nat) (yv : Int) (h0z : List AV) (h0e : List (List AV)) : Nat → Int → Int → Option AV
  | 0,_,_ => none
  | n' + 1,by8,ui9 => gref02_NatUp_l0_step qa qc fuel (gref02_NatUp_l0 qa qc fuel kx0 qfe qiq qic qik qez qex qfb yv h0z h0e n') kx0 qfe qiq qic qik qez qex qfb yv h0z h0e by8 ui9
noncomputable def Tref02_NatUp_0 : TS' := ⟨[(1,TA.i .i64),(5,TA.ro 1),(6,TA.own 0 1),(7,TA.i .u64),(8,TA.i .u64),(9,TA.i .i64)],[TB.fx 1],[]⟩
noncomputable def Fref02_NatUp_0 (qa qc : Mo) (fuel : Nat) (ps : List Pay) (K : Ex → St → Option AV) : Option AV := match ps with
  | .i qfe :: .n qiq :: .n qic :: .g qik :: .n qez :: .n qex :: .n qfb :: .i yv :: .i by8 :: .i ui9 :: .z h0z :: .e h0e :: [] => gref02_NatUp_l0 qa qc fuel (fun qwm qxw qw4 qrs qsq qvb qmj q0m qcw qcp => K (Ex.exit 0) (Xref02_NatUp_0_0 qwm qxw qw4 qrs qsq qvb qmj q0m qcw qcp)) qfe qiq qic qik qez qex qfb yv h0z h0e fuel by8 ui9
  | _ => none
noncomputable def Sref02_NatUp_1 (qck qdh : Nat) (qb9 : Ge) (p8 qei qhd : Int) (h1z : List AV) (h1e : List (List AV)) : St := { env := [(5,AV.ro 1 qck qdh qb9),(6,AV.lst 1 1),(7,AV.int .u64 p8),(8,AV.int .u64 qei),(10,AV.int .i64 qhd)],h := [Blk.gone,Blk.fl 1 h1z h1e],kd := [1] }
noncomputable def Xref02_NatUp_1_0 (ql9 : Int) (qtf : List AV) (qlg : List (List AV)) : St := { env := [(6,AV.lst 1 1),(7,AV.int .u64 ql9)],h := [Blk.gone,Blk.fl 1 qtf qlg],kd := [1] }
noncomputable def gref02_NatUp_l1_step (qa qc : Mo) (fuel : Nat) (kn : Int → Int → List (List AV) → Option AV) (kx0 : Int → List AV → List (List AV) → Option AV) (qck qdh : Nat) (qb9 : Ge) (qei : Int) (h1z : List AV) (p8 qhd : Int) (h1e : List (List AV)) : Option AV :=
  bif decide (qhd < (↑qck : Int)) then ck (decide (0 ≤ qhd)) <| ck (decide (qhd < (↑qck : Int))) <| ck (fitK (LK.i .u64) (qb9 qhd.toNat 0)) <| ck (decide ((h1e.length + 1) * 8 < 70368744177664)) <| ck (decide (h1e.length + 1 < 4611686018427387904)) <| kn (IntKind.u64.wrap ((IntKind.u64.wrap (IntKind.u64.wrap (toI (qb9 qhd.toNat 0) * qei) + p8)).tdiv 4294967296)) (IntKind.i64.wrap (qhd + 1)) (h1e ++ [[AV.int .u64 ((IntKind.u64.wrap (IntKind.u64.wrap (toI (qb9 qhd.toNat 0) * qei) + p8)).tmod 4294967296)]])
  else kx0 p8 h1z h1e
noncomputable def gref02_NatUp_l1 (qa qc : Mo) (fuel : Nat) (kx0 : Int → List AV → List (List AV) → Option AV) (qck qdh : Nat) (qb9 : Ge) (qei : Int) (h1z : List AV) : Nat → Int → Int → List (List AV) → Option AV
  | 0,_,_,_ => none
  | n' + 1,p8,qhd,h1e => gref02_NatUp_l1_step qa qc fuel (gref02_NatUp_l1 qa qc fuel kx0 qck qdh qb9 qei h1z n') kx0 qck qdh qb9 qei h1z p8 qhd h1e
noncomputable def Tref02_NatUp_1 : TS' := ⟨[(5,TA.ro 1),(6,TA.lst 1 1),(7,TA.i .u64),(8,TA.i .u64),(10,TA.i .i64)],[TB.gone,TB.fl 1],[1]⟩
noncomputable def Fref02_NatUp_1 (qa qc : Mo) (fuel : Nat) (ps : List Pay) (K : Ex → St → Option AV) : Option AV := match ps with
  | .n qck :: .n qdh :: .g qb9 :: .i p8 :: .i qei :: .i qhd :: .z h1z :: .e h1e :: [] => gref02_NatUp_l1 qa qc fuel (fun ql9 qtf qlg => K (Ex.exit 2) (Xref02_NatUp_1_0 ql9 qtf qlg)) qck qdh qb9 qei h1z fuel p8 qhd h1e
  | _ => none
noncomputable def Lref02_NatUp (qa qc : Mo) (fuel : Nat) : Lam AV := [(267387648,lam Tref02_NatUp_0 (Fref02_NatUp_0 qa qc fuel)),(562949684989120,lam Tref02_NatUp_1 (Fref02_NatUp_1 qa qc fuel))]
noncomputable def Gref02_NatUp (qa qc : Mo) : Gam := [(66,smM [RS.one (LK.l (nat_lit 1))] qa),(64,smM [RS.one (LK.l (nat_lit 1))] qc)]
theorem gref02_NatUp_l0_eq (qa qc : Mo) (fuel : Nat) (kn : St → Option AV) (K : Ex → St → Option AV) (qfe : Int) (qiq qic : Nat) (qik : Ge) (qez qex qfb : Nat) (yv : Int) (h0z : List AV) (h0e : List (List AV)) (q1e qjd : Int) (by8 ui9 : Int) :
    bX Pr (Gref02_NatUp qa qc) (Lref02_NatUp qa qc fuel) 6 50 0 fuel (Sref02_NatUp_0 qfe qiq qic qik qez qex qfb yv by8 ui9 h0z h0e) (fun e s => match e with | .normal => kn (hX Pr 50 0 (Sref02_NatUp_0 qfe qiq qic qik qez qex qfb yv q1e qjd h0z h0e) s) | e => K e s) =
    gref02_NatUp_l0_step qa qc fuel (fun by8 ui9 => kn (Sref02_NatUp_0 qfe qiq qic qik qez qex qfb yv by8 ui9 h0z h0e)) (fun qr6 qtz qry qla qlc xout6c qa4 qzc qbb qau => K (Ex.exit 0) (Xref02_NatUp_0_0 qr6 qtz qry qla qlc xout6c qa4 qzc qbb qau)) qfe qiq qic qik qez qex qfb yv h0z h0e by8 ui9 := by kernel_rfl
theorem gref02_NatUp_l0_ok (qa qc : Mo) (fuel : Nat) (K : Ex → St → Option AV) (qfe : Int) (qiq qic : Nat) (qik : Ge) (qez qex qfb : Nat) (yv : Int) (h0z : List AV) (h0e : List (List AV)) (q1e qjd : Int) : ∀ (n' : Nat) (by8 ui9 : Int),
    loopK (bX Pr (Gref02_NatUp qa qc) (Lref02_NatUp qa qc fuel) 6 50 0 fuel) (hX Pr 50 0 (Sref02_NatUp_0 qfe qiq qic qik qez qex qfb yv q1e qjd h0z h0e)) n' (Sref02_NatUp_0 qfe qiq qic qik qez qex qfb yv by8 ui9 h0z h0e) K = gref02_NatUp_l0 qa qc fuel (fun qr6 qtz qry qla qlc xout6c qa4 qzc qbb qau => K (Ex.exit 0) (Xref02_NatUp_0_0 qr6 qtz qry qla qlc xout6c qa4 qzc qbb qau)) qfe qiq qic qik qez qex qfb yv h0z h0e n' by8 ui9
  | 0,_,_ => rfl
  | n' + 1,by8,ui9 => (gref02_NatUp_l0_eq qa qc fuel (fun s => loopK (bX Pr (Gref02_NatUp qa qc) (Lref02_NatUp qa qc fuel) 6 50 0 fuel) (hX Pr 50 0 (Sref02_NatUp_0 qfe qiq qic qik qez qex qfb yv q1e qjd h0z h0e)) n' s K) K qfe qiq qic qik qez qex qfb yv h0z h0e q1e qjd by8 ui9).trans
    (congrArg (fun kn => gref02_NatUp_l0_step qa qc fuel kn _ qfe qiq qic qik qez qex qfb yv h0z h0e by8 ui9) (funext fun by8 => funext fun ui9 => gref02_NatUp_l0_ok qa qc fuel K qfe qiq qic qik qez qex qfb yv h0z h0e q1e qjd n' by8 ui9))
theorem gref02_NatUp_L0 (qa qc : Mo) (fuel : Nat) : LX Pr (Gref02_NatUp qa qc) (Lref02_NatUp qa qc fuel) 6 50 0 fuel := by
  refine .of Tref02_NatUp_0 (Fref02_NatUp_0 qa qc fuel) (fun L h => ?_) (fun ps st K r he hr => ?_)
  · have e : (Lref02_NatUp qa qc fuel).get (writes (lp Pr 50 0).1) = some (lam Tref02_NatUp_0 (Fref02_NatUp_0 qa qc fuel)) := by kernel_rfl
    exact (Option.some.inj (e.symm.trans h)).symm
  · unfold Fref02_NatUp_0 at hr
    split at hr
    · obtain rfl := (Option.some.inj he).symm
      exact (gref02_NatUp_l0_ok qa qc fuel K _ _ _ _ _ _ _ _ _ _ _ _ fuel _ _).trans hr
    · cases hr
theorem gref02_NatUp_l1_eq (qa qc : Mo) (fuel : Nat) (kn : St → Option AV) (K : Ex → St → Option AV) (qck qdh : Nat) (qb9 : Ge) (qei : Int) (h1z : List AV) (qhu qwe : Int) (qoc : List (List AV)) (p8 qhd : Int) (h1e : List (List AV)) :
    bX Pr (Gref02_NatUp qa qc) (Lref02_NatUp qa qc fuel) 6 50 1 fuel (Sref02_NatUp_1 qck qdh qb9 p8 qei qhd h1z h1e) (fun e s => match e with | .normal => kn (hX Pr 50 1 (Sref02_NatUp_1 qck qdh qb9 qhu qei qwe h1z qoc) s) | e => K e s) =
    gref02_NatUp_l1_step qa qc fuel (fun p8 qhd h1e => kn (Sref02_NatUp_1 qck qdh qb9 p8 qei qhd h1z h1e)) (fun qa4 qia qge => K (Ex.exit 2) (Xref02_NatUp_1_0 qa4 qia qge)) qck qdh qb9 qei h1z p8 qhd h1e := by kernel_rfl
theorem gref02_NatUp_l1_ok (qa qc : Mo) (fuel : Nat) (K : Ex → St → Option AV) (qck qdh : Nat) (qb9 : Ge) (qei : Int) (h1z : List AV) (qhu qwe : Int) (qoc : List (List AV)) : ∀ (n' : Nat) (p8 qhd : Int) (h1e : List (List AV)),
    loopK (bX Pr (Gref02_NatUp qa qc) (Lref02_NatUp qa qc fuel) 6 50 1 fuel) (hX Pr 50 1 (Sref02_NatUp_1 qck qdh qb9 qhu qei qwe h1z qoc)) n' (Sref02_NatUp_1 qck qdh qb9 p8 qei qhd h1z h1e) K = gref02_NatUp_l1 qa qc fuel (fun qa4 qia qge => K (Ex.exit 2) (Xref02_NatUp_1_0 qa4 qia qge)) qck qdh qb9 qei h1z n' p8 qhd h1e
  | 0,_,_,_ => rfl
  | n' + 1,p8,qhd,h1e => (gref02_NatUp_l1_eq qa qc fuel (fun s => loopK (bX Pr (Gref02_NatUp qa qc) (Lref02_NatUp qa qc fuel) 6 50 1 fuel) (hX Pr 50 1 (Sref02_NatUp_1 qck qdh qb9 qhu qei qwe h1z qoc)) n' s K) K qck qdh qb9 qei h1z qhu qwe qoc p8 qhd h1e).trans
    (congrArg (fun kn => gref02_NatUp_l1_step qa qc fuel kn _ qck qdh qb9 qei h1z p8 qhd h1e) (funext fun p8 => funext fun qhd => funext fun h1e => gref02_NatUp_l1_ok qa qc fuel K qck qdh qb9 qei h1z qhu qwe qoc n' p8 qhd h1e))
theorem gref02_NatUp_L1 (qa qc : Mo) (fuel : Nat) : LX Pr (Gref02_NatUp qa qc) (Lref02_NatUp qa qc fuel) 6 50 1 fuel := by
  refine .of Tref02_NatUp_1 (Fref02_NatUp_1 qa qc fuel) (fun L h => ?_) (fun ps st K r he hr => ?_)
  · have e : (Lref02_NatUp qa qc fuel).get (writes (lp Pr 50 1).1) = some (lam Tref02_NatUp_1 (Fref02_NatUp_1 qa qc fuel)) := by kernel_rfl
    exact (Option.some.inj (e.symm.trans h)).symm
  · unfold Fref02_NatUp_1 at hr
    split at hr
    · obtain rfl := (Option.some.inj he).symm
      exact (gref02_NatUp_l1_ok qa qc fuel K _ _ _ _ _ _ _ _ fuel _ _ _).trans hr
    · cases hr
noncomputable def gref02_NatUp (qa qc : Mo) (fuel qbz qbx : Nat) (qby : Ge) (un1 : Int) : Option AV :=
  let r0 : Option AV := qa [AV.ro 1 qbz qbx qby]; ck (okM [RS.one (LK.l 1)] r0) <| bif (↑(toN (getV r0)) : Int) == 0 then some (AV.ro 1 0 0 fun (x j : Nat) => [AV.int .u64 0].getD j AV.dead)
  else ck (decide (0 ≤ IntKind.i64.wrap (un1.tdiv 32))) <| ck (decide (IntKind.i64.wrap (un1.tdiv 32) ≤ IntKind.i64.wrap (un1.tdiv 32))) <| ck ((8 * (IntKind.i64.wrap (un1.tdiv 32)).toNat).ble 281474976710656) <| ck (((IntKind.i64.wrap (un1.tdiv 32)).toNat + 1).ble 4611686018427387904) <| gref02_NatUp_l0 qa qc fuel
    (fun (qr6 qtz : Nat) (qry : Ge) (qla qlc _ : Nat) (qa4 qzc : Int) (qbb : List AV) (qau : List (List AV)) => ck (decide (qla = 0)) <| gref02_NatUp_l1 qa qc fuel
        (fun (qgj : Int) (qia : List AV) (qge : List (List AV)) => ck (decide ((qge.length + 1) * 8 < 70368744177664)) <| ck (decide (qge.length + 1 < 4611686018427387904)) <| let r1 : Option AV := qc [AV.ro 1 (qge ++ [[AV.int .u64 qgj]]).length (qge ++ [[AV.int .u64 qgj]]).length fun (i j : Nat) => ((qge ++ [[AV.int .u64 qgj]]).getD i qia).getD j AV.dead]; ck (okM [RS.one (LK.l 1)] r1) <| some (AV.ro 1 (toN (getV r1)) (toR (getV r1)) (toG (getV r1))))
        qr6
        qtz
        qry
        qzc
        qbb fuel qa4 (0) (List.take qlc qau))
    un1
    (toN (getV r0))
    (toR (getV r0))
    (toG (getV r0))
    (0)
    ((IntKind.i64.wrap (un1.tdiv 32)).toNat)
    ((IntKind.i64.wrap (un1.tdiv 32)).toNat)
    (0)
    ([AV.int .u64 0])
    (List.replicate (IntKind.i64.wrap (un1.tdiv 32)).toNat [AV.int .u64 0]) fuel (1) (0)
noncomputable def mref02_NatUp (qa qc : Mo) (fuel : Nat) (xs : List AV) : Option AV := match xs with
  | [AV.ro 1 qbz qbx qby,AV.int .i64 un1] => gref02_NatUp qa qc fuel qbz qbx qby un1
  | _ => none
abbrev Rref02_NatUp : List RS := [RS.one (LK.l (nat_lit 1))]
theorem gref02_NatUp_sm (qa qc : Mo) (fuel : Nat) (hΓ : GamOk Pr (Gref02_NatUp qa qc)) (hP : NamesOk Pr) : SmOk Pr 50 (smM Rref02_NatUp (mref02_NatUp qa qc fuel)) := smL (L := (Lref02_NatUp qa qc fuel)) (n := 2) hΓ hP (by kernel_rfl) (fun i hi => match i,hi with
  | 0,_ => gref02_NatUp_L0 qa qc fuel
  | 1,_ => gref02_NatUp_L1 qa qc fuel
  | i + 2,hi => absurd hi (by omega)) fun xs v h => by
  unfold mref02_NatUp at h
  split at h
  · exact Eq.trans (by kernel_rfl) h
  · cases h
noncomputable def Gref02_digit : Gam := []
noncomputable def gref02_digit (fuel qh2 qjj : Nat) (qil : Ge) (ui1 : Int) : Option AV :=
  bif decide (ui1 < (↑qh2 : Int)) then ck (decide (0 ≤ ui1)) <| ck (decide (ui1 < (↑qh2 : Int))) <| ck (fitK (LK.i .u64) (qil ui1.toNat 0)) <| some (AV.int .u64 (toI (qil ui1.toNat 0)))
  else some (AV.int .u64 0)
noncomputable def mref02_digit (fuel : Nat) (xs : List AV) : Option AV := match xs with
  | [AV.ro 1 qh2 qjj qil,AV.int .i64 ui1] => gref02_digit fuel qh2 qjj qil ui1
  | _ => none
abbrev Rref02_digit : List RS := [RS.one (LK.i .u64)]
theorem gref02_digit_sm (fuel : Nat) (hΓ : GamOk Pr Gref02_digit) (hP : NamesOk Pr) : SmOk Pr 69 (smM Rref02_digit (mref02_digit fuel)) := sm0 (fuel := fuel) (d := 7) hΓ hP fun xs v h => by
  unfold mref02_digit at h
  split at h
  · exact Eq.trans (by kernel_rfl) h
  · cases h
noncomputable def Sref02_NatAdd_0 (p5 qak : Nat) (pz : Ge) (p4 qaa : Nat) (p0 : Ge) (qci ui9 : Int) (h0z : List AV) (h0e : List (List AV)) : St := { env := [(5,AV.ro 1 p5 qak pz),(6,AV.ro 1 p4 qaa p0),(7,AV.lst 0 1),(8,AV.int .u64 qci),(9,AV.int .i64 ui9)],h := [Blk.fl 1 h0z h0e],kd := [0] }
noncomputable def Xref02_NatAdd_0_0 (qcw : List AV) (qcp : List (List AV)) : St := { env := [(7,AV.lst 0 1)],h := [Blk.fl 1 qcw qcp],kd := [0] }
noncomputable def gref02_NatAdd_l0_step (qa qj qc : Mo) (fuel : Nat) (kn : Int → Int → List (List AV) → Option AV) (kx0 : List AV → List (List AV) → Option AV) (p5 qak : Nat) (pz : Ge) (p4 qaa : Nat) (p0 : Ge) (h0z : List AV) (qci ui9 : Int) (h0e : List (List AV)) : Option AV :=
  bif bif bif decide (ui9 < (↑p5 : Int)) then true else decide (ui9 < (↑p4 : Int)) then true else decide (qci > 0) then ck (okM [RS.one (LK.i .u64)] (qj [AV.ro 1 p5 qak pz,AV.int .i64 ui9])) <| ck (okM [RS.one (LK.i .u64)] (qj [AV.ro 1 p4 qaa p0,AV.int .i64 ui9])) <| ck (decide ((h0e.length + 1) * 8 < 70368744177664)) <| ck (decide (h0e.length + 1 < 4611686018427387904)) <| kn (IntKind.u64.wrap ((IntKind.u64.wrap (IntKind.u64.wrap (toI (getV (qj [AV.ro 1 p5 qak pz,AV.int .i64 ui9])) + toI (getV (qj [AV.ro 1 p4 qaa p0,AV.int .i64 ui9]))) + qci)).tdiv 4294967296)) (IntKind.i64.wrap (ui9 + 1)) (h0e ++ [[AV.int .u64 ((IntKind.u64.wrap (IntKind.u64.wrap (toI (getV (qj [AV.ro 1 p5 qak pz,AV.int .i64 ui9])) + toI (getV (qj [AV.ro 1 p4 qaa p0,AV.int .i64 ui9]))) + qci)).tmod 4294967296)]])
  else kx0 h0z h0e
noncomputable def gref02_NatAdd_l0 (qa qj qc : Mo) (fuel : Nat) (kx0 : List AV → List (List AV) → Option AV) (p5 qak : Nat) (pz : Ge) (p4 qaa : Nat) (p0 : Ge) (h0z : List AV) : Nat → Int → Int → List (List AV) → Option AV
  | 0,_,_,_ => none
  | n' + 1,qci,ui9,h0e => gref02_NatAdd_l0_step qa qj qc fuel (gref02_NatAdd_l0 qa qj qc fuel kx0 p5 qak pz p4 qaa p0 h0z n') kx0 p5 qak pz p4 qaa p0 h0z qci ui9 h0e
noncomputable def Tref02_NatAdd_0 : TS' := ⟨[(5,TA.ro 1),(6,TA.ro 1),(7,TA.lst 0 1),(8,TA.i .u64),(9,TA.i .i64)],[TB.fl 1],[0]⟩
noncomputable def Fref02_NatAdd_0 (qa qj qc : Mo) (fuel : Nat) (ps : List Pay) (K : Ex → St → Option AV) : Option AV := match ps with
  | .n p5 :: .n qak :: .g pz :: .n p4 :: .n qaa :: .g p0 :: .i qci :: .i ui9 :: .z h0z :: .e h0e :: [] => gref02_NatAdd_l0 qa qj qc fuel (fun qcw qcp => K (Ex.exit 0) (Xref02_NatAdd_0_0 qcw qcp)) p5 qak pz p4 qaa p0 h0z fuel qci ui9 h0e
  | _ => none
noncomputable def Lref02_NatAdd (qa qj qc : Mo) (fuel : Nat) : Lam AV := [(140737488324480,lam Tref02_NatAdd_0 (Fref02_NatAdd_0 qa qj qc fuel))]
noncomputable def Gref02_NatAdd (qa qj qc : Mo) : Gam := [(66,smM [RS.one (LK.l (nat_lit 1))] qa),(69,smM [RS.one (LK.i .u64)] qj),(64,smM [RS.one (LK.l (nat_lit 1))] qc)]
theorem gref02_NatAdd_l0_eq (qa qj qc : Mo) (fuel : Nat) (kn : St → Option AV) (K : Ex → St → Option AV) (p5 qak : Nat) (pz : Ge) (p4 qaa : Nat) (p0 : Ge) (h0z : List AV) (qk4 qjd : Int) (qec : List (List AV)) (qci ui9 : Int) (h0e : List (List AV)) :
    bX Pr (Gref02_NatAdd qa qj qc) (Lref02_NatAdd qa qj qc fuel) 6 51 0 fuel (Sref02_NatAdd_0 p5 qak pz p4 qaa p0 qci ui9 h0z h0e) (fun e s => match e with | .normal => kn (hX Pr 51 0 (Sref02_NatAdd_0 p5 qak pz p4 qaa p0 qk4 qjd h0z qec) s) | e => K e s) =
    gref02_NatAdd_l0_step qa qj qc fuel (fun qci ui9 h0e => kn (Sref02_NatAdd_0 p5 qak pz p4 qaa p0 qci ui9 h0z h0e)) (fun qbb qau => K (Ex.exit 0) (Xref02_NatAdd_0_0 qbb qau)) p5 qak pz p4 qaa p0 h0z qci ui9 h0e := by kernel_rfl
theorem gref02_NatAdd_l0_ok (qa qj qc : Mo) (fuel : Nat) (K : Ex → St → Option AV) (p5 qak : Nat) (pz : Ge) (p4 qaa : Nat) (p0 : Ge) (h0z : List AV) (qk4 qjd : Int) (qec : List (List AV)) : ∀ (n' : Nat) (qci ui9 : Int) (h0e : List (List AV)),
    loopK (bX Pr (Gref02_NatAdd qa qj qc) (Lref02_NatAdd qa qj qc fuel) 6 51 0 fuel) (hX Pr 51 0 (Sref02_NatAdd_0 p5 qak pz p4 qaa p0 qk4 qjd h0z qec)) n' (Sref02_NatAdd_0 p5 qak pz p4 qaa p0 qci ui9 h0z h0e) K = gref02_NatAdd_l0 qa qj qc fuel (fun qbb qau => K (Ex.exit 0) (Xref02_NatAdd_0_0 qbb qau)) p5 qak pz p4 qaa p0 h0z n' qci ui9 h0e
  | 0,_,_,_ => rfl
  | n' + 1,qci,ui9,h0e => (gref02_NatAdd_l0_eq qa qj qc fuel (fun s => loopK (bX Pr (Gref02_NatAdd qa qj qc) (Lref02_NatAdd qa qj qc fuel) 6 51 0 fuel) (hX Pr 51 0 (Sref02_NatAdd_0 p5 qak pz p4 qaa p0 qk4 qjd h0z qec)) n' s K) K p5 qak pz p4 qaa p0 h0z qk4 qjd qec qci ui9 h0e).trans
    (congrArg (fun kn => gref02_NatAdd_l0_step qa qj qc fuel kn _ p5 qak pz p4 qaa p0 h0z qci ui9 h0e) (funext fun qci => funext fun ui9 => funext fun h0e => gref02_NatAdd_l0_ok qa qj qc fuel K p5 qak pz p4 qaa p0 h0z qk4 qjd qec n' qci ui9 h0e))
theorem gref02_NatAdd_L0 (qa qj qc : Mo) (fuel : Nat) : LX Pr (Gref02_NatAdd qa qj qc) (Lref02_NatAdd qa qj qc fuel) 6 51 0 fuel := by
  refine .of Tref02_NatAdd_0 (Fref02_NatAdd_0 qa qj qc fuel) (fun L h => ?_) (fun ps st K r he hr => ?_)
  · have e : (Lref02_NatAdd qa qj qc fuel).get (writes (lp Pr 51 0).1) = some (lam Tref02_NatAdd_0 (Fref02_NatAdd_0 qa qj qc fuel)) := by kernel_rfl
    exact (Option.some.inj (e.symm.trans h)).symm
  · unfold Fref02_NatAdd_0 at hr
    split at hr
    · obtain rfl := (Option.some.inj he).symm
      exact (gref02_NatAdd_l0_ok qa qj qc fuel K _ _ _ _ _ _ _ _ _ _ fuel _ _ _).trans hr
    · cases hr
noncomputable def gref02_NatAdd (qa qj qc : Mo) (fuel qbz qbx : Nat) (qby : Ge) (qg7 qg2 : Nat) (qga : Ge) : Option AV :=
  let r0 : Option AV := qa [AV.ro 1 qbz qbx qby]; ck (okM [RS.one (LK.l 1)] r0) <| let r1 : Option AV := qa [AV.ro 1 qg7 qg2 qga]; ck (okM [RS.one (LK.l 1)] r1) <| gref02_NatAdd_l0 qa qj qc fuel
    (fun (qbb : List AV) (qau : List (List AV)) => let r2 : Option AV := qc [AV.ro 1 qau.length qau.length fun (i j : Nat) => (qau.getD i qbb).getD j AV.dead]; ck (okM [RS.one (LK.l 1)] r2) <| some (AV.ro 1 (toN (getV r2)) (toR (getV r2)) (toG (getV r2))))
    (toN (getV r0))
    (toR (getV r0))
    (toG (getV r0))
    (toN (getV r1))
    (toR (getV r1))
    (toG (getV r1))
    ([AV.int .u64 0]) fuel (0) (0) ([])
noncomputable def mref02_NatAdd (qa qj qc : Mo) (fuel : Nat) (xs : List AV) : Option AV := match xs with
  | [AV.ro 1 qbz qbx qby,AV.ro 1 qg7 qg2 qga] => gref02_NatAdd qa qj qc fuel qbz qbx qby qg7 qg2 qga
  | _ => none
abbrev Rref02_NatAdd : List RS := [RS.one (LK.l (nat_lit 1))]
theorem gref02_NatAdd_sm (qa qj qc : Mo) (fuel : Nat) (hΓ : GamOk Pr (Gref02_NatAdd qa qj qc)) (hP : NamesOk Pr) : SmOk Pr 51 (smM Rref02_NatAdd (mref02_NatAdd qa qj qc fuel)) := smL (L := (Lref02_NatAdd qa qj qc fuel)) (n := 1) hΓ hP (by kernel_rfl) (fun i hi => match i,hi with
  | 0,_ => gref02_NatAdd_L0 qa qj qc fuel
  | i + 1,hi => absurd hi (by omega)) fun xs v h => by
  unfold mref02_NatAdd at h
  split at h
  · exact Eq.trans (by kernel_rfl) h
  · cases h
noncomputable def Sref02_NatCmp_0 (p5 qak : Nat) (pz : Ge) (p4 qaa : Nat) (p0 : Ge) (ui7 : Int) : St := { env := [(5,AV.ro 1 p5 qak pz),(6,AV.ro 1 p4 qaa p0),(7,AV.int .i64 ui7)],h := [],kd := [] }
noncomputable def Xref02_NatCmp_0_0 (qto : Int) : St := { env := [(4,AV.int .i64 qto)],h := [],kd := [] }
noncomputable def Xref02_NatCmp_0_1 : St := { env := [],h := [],kd := [] }
noncomputable def gref02_NatCmp_l0_step (qb : Mo) (fuel : Nat) (kn kx0 : Int → Option AV) (kx1 : Option AV) (p5 qak : Nat) (pz : Ge) (p4 qaa : Nat) (p0 : Ge) (ui7 : Int) : Option AV :=
  bif decide (ui7 ≥ 0) then ck (decide (0 ≤ ui7)) <| ck (decide (ui7 < (↑p5 : Int))) <| ck (fitK (LK.i .u64) (pz ui7.toNat 0)) <| ck (decide (0 ≤ ui7)) <| ck (decide (ui7 < (↑p4 : Int))) <| ck (fitK (LK.i .u64) (p0 ui7.toNat 0)) <| bif decide (toI (pz ui7.toNat 0) < toI (p0 ui7.toNat 0)) then kx0 ((-1))
    else ck (decide (0 ≤ ui7)) <| ck (decide (ui7 < (↑p5 : Int))) <| ck (fitK (LK.i .u64) (pz ui7.toNat 0)) <| ck (decide (0 ≤ ui7)) <| ck (decide (ui7 < (↑p4 : Int))) <| ck (fitK (LK.i .u64) (p0 ui7.toNat 0)) <| bif decide (toI (pz ui7.toNat 0) > toI (p0 ui7.toNat 0)) then kx0 (1)
    else kn (IntKind.i64.wrap (ui7 - 1))
  else kx1
noncomputable def gref02_NatCmp_l0 (qb : Mo) (fuel : Nat) (kx0 : Int → Option AV) (kx1 : Option AV) (p5 qak : Nat) (pz : Ge) (p4 qaa : Nat) (p0 : Ge) : Nat → Int → Option AV
  | 0,_ => none
  | n' + 1,ui7 => gref02_NatCmp_l0_step qb fuel (gref02_NatCmp_l0 qb fuel kx0 kx1 p5 qak pz p4 qaa p0 n') kx0 kx1 p5 qak pz p4 qaa p0 ui7
noncomputable def Tref02_NatCmp_0 : TS' := ⟨[(5,TA.ro 1),(6,TA.ro 1),(7,TA.i .i64)],[],[]⟩
noncomputable def Fref02_NatCmp_0 (qb : Mo) (fuel : Nat) (ps : List Pay) (K : Ex → St → Option AV) : Option AV := match ps with
  | .n p5 :: .n qak :: .g pz :: .n p4 :: .n qaa :: .g p0 :: .i ui7 :: [] => gref02_NatCmp_l0 qb fuel (fun qto => K (Ex.ret) (Xref02_NatCmp_0_0 qto)) (K (Ex.exit 0) Xref02_NatCmp_0_1) p5 qak pz p4 qaa p0 fuel ui7
  | _ => none
noncomputable def Lref02_NatCmp (qb : Mo) (fuel : Nat) : Lam AV := [(140737454801040,lam Tref02_NatCmp_0 (Fref02_NatCmp_0 qb fuel))]
noncomputable def Gref02_NatCmp (qb : Mo) : Gam := [(63,smM [RS.one (LK.l (nat_lit 1))] qb)]
theorem gref02_NatCmp_l0_eq (qb : Mo) (fuel : Nat) (kn : St → Option AV) (K : Ex → St → Option AV) (p5 qak : Nat) (pz : Ge) (p4 qaa : Nat) (p0 : Ge) (qp3 ui7 : Int) :
    bX Pr (Gref02_NatCmp qb) (Lref02_NatCmp qb fuel) 6 52 0 fuel (Sref02_NatCmp_0 p5 qak pz p4 qaa p0 ui7) (fun e s => match e with | .normal => kn (hX Pr 52 0 (Sref02_NatCmp_0 p5 qak pz p4 qaa p0 qp3) s) | e => K e s) =
    gref02_NatCmp_l0_step qb fuel (fun ui7 => kn (Sref02_NatCmp_0 p5 qak pz p4 qaa p0 ui7)) (fun xu4 => K (Ex.ret) (Xref02_NatCmp_0_0 xu4)) (K (Ex.exit 0) Xref02_NatCmp_0_1) p5 qak pz p4 qaa p0 ui7 := by kernel_rfl
theorem gref02_NatCmp_l0_ok (qb : Mo) (fuel : Nat) (K : Ex → St → Option AV) (p5 qak : Nat) (pz : Ge) (p4 qaa : Nat) (p0 : Ge) (qp3 : Int) : ∀ (n' : Nat) (ui7 : Int),
    loopK (bX Pr (Gref02_NatCmp qb) (Lref02_NatCmp qb fuel) 6 52 0 fuel) (hX Pr 52 0 (Sref02_NatCmp_0 p5 qak pz p4 qaa p0 qp3)) n' (Sref02_NatCmp_0 p5 qak pz p4 qaa p0 ui7) K = gref02_NatCmp_l0 qb fuel (fun xu4 => K (Ex.ret) (Xref02_NatCmp_0_0 xu4)) (K (Ex.exit 0) Xref02_NatCmp_0_1) p5 qak pz p4 qaa p0 n' ui7
  | 0,_ => rfl
  | n' + 1,ui7 => (gref02_NatCmp_l0_eq qb fuel (fun s => loopK (bX Pr (Gref02_NatCmp qb) (Lref02_NatCmp qb fuel) 6 52 0 fuel) (hX Pr 52 0 (Sref02_NatCmp_0 p5 qak pz p4 qaa p0 qp3)) n' s K) K p5 qak pz p4 qaa p0 qp3 ui7).trans
    (congrArg (fun kn => gref02_NatCmp_l0_step qb fuel kn _ _ p5 qak pz p4 qaa p0 ui7) (funext fun ui7 => gref02_NatCmp_l0_ok qb fuel K p5 qak pz p4 qaa p0 qp3 n' ui7))
theorem gref02_NatCmp_L0 (qb : Mo) (fuel : Nat) : LX Pr (Gref02_NatCmp qb) (Lref02_NatCmp qb fuel) 6 52 0 fuel := by
  refine .of Tref02_NatCmp_0 (Fref02_NatCmp_0 qb fuel) (fun L h => ?_) (fun ps st K r he hr => ?_)
  · have e : (Lref02_NatCmp qb fuel).get (writes (lp Pr 52 0).1) = some (lam Tref02_NatCmp_0 (Fref02_NatCmp_0 qb fuel)) := by kernel_rfl
    exact (Option.some.inj (e.symm.trans h)).symm
  · unfold Fref02_NatCmp_0 at hr
    split at hr
    · obtain rfl := (Option.some.inj he).symm
      exact (gref02_NatCmp_l0_ok qb fuel K _ _ _ _ _ _ _ fuel _).trans hr
    · cases hr
noncomputable def gref02_NatCmp (qb : Mo) (fuel qbz qbx : Nat) (qby : Ge) (qg7 qg2 : Nat) (qga : Ge) : Option AV :=
  let r0 : Option AV := qb [AV.ro 1 qbz qbx qby]; ck (okM [RS.one (LK.l 1)] r0) <| let r1 : Option AV := qb [AV.ro 1 qg7 qg2 qga]; ck (okM [RS.one (LK.l 1)] r1) <| bif (↑(toN (getV r0)) : Int) != (↑(toN (getV r1)) : Int) then bif decide ((↑(toN (getV r0)) : Int) < (↑(toN (getV r1)) : Int)) then some (AV.int .i64 (-1))
    else some (AV.int .i64 1)
  else gref02_NatCmp_l0 qb fuel
    (fun (xu4 : Int) => some (AV.int .i64 xu4))
    (some (AV.int .i64 0))
    (toN (getV r0))
    (toR (getV r0))
    (toG (getV r0))
    (toN (getV r1))
    (toR (getV r1))
    (toG (getV r1)) fuel (IntKind.i64.wrap ((↑(toN (getV r0)) : Int) - 1))
noncomputable def mref02_NatCmp (qb : Mo) (fuel : Nat) (xs : List AV) : Option AV := match xs with
  | [AV.ro 1 qbz qbx qby,AV.ro 1 qg7 qg2 qga] => gref02_NatCmp qb fuel qbz qbx qby qg7 qg2 qga
  | _ => none
abbrev Rref02_NatCmp : List RS := [RS.one (LK.i .i64)]
theorem gref02_NatCmp_sm (qb : Mo) (fuel : Nat) (hΓ : GamOk Pr (Gref02_NatCmp qb)) (hP : NamesOk Pr) : SmOk Pr 52 (smM Rref02_NatCmp (mref02_NatCmp qb fuel)) := smL (L := (Lref02_NatCmp qb fuel)) (n := 1) hΓ hP (by kernel_rfl) (fun i hi => match i,hi with
  | 0,_ => gref02_NatCmp_L0 qb fuel
  | i + 1,hi => absurd hi (by omega)) fun xs v h => by
  unfold mref02_NatCmp at h
  split at h
  · exact Eq.trans (by kernel_rfl) h
  · cases h
noncomputable def Sref02_NatSub_0 (p5 qak : Nat) (pz : Ge) (p4 qaa : Nat) (p0 : Ge) (qbf ui9 : Int) (h0z : List AV) (h0e : List (List AV)) : St := { env := [(5,AV.ro 1 p5 qak pz),(6,AV.ro 1 p4 qaa p0),(7,AV.lst 0 1),(8,AV.int .u64 qbf),(9,AV.int .i64 ui9)],h := [Blk.fl 1 h0z h0e],kd := [0] }
noncomputable def Xref02_NatSub_0_0 (qcw : List AV) (qcp : List (List AV)) : St := { env := [(7,AV.lst 0 1)],h := [Blk.fl 1 qcw qcp],kd := [0] }
noncomputable def gref02_NatSub_l0_step (qa qj qc : Mo) (fuel : Nat) (kn : Int → Int → List (List AV) → Option AV) (kx0 : List AV → List (List AV) → Option AV) (p5 qak : Nat) (pz : Ge) (p4 qaa : Nat) (p0 : Ge) (h0z : List AV) (qbf ui9 : Int) (h0e : List (List AV)) : Option AV :=
  bif decide (ui9 < (↑p5 : Int)) then ck (decide (0 ≤ ui9)) <| ck (decide (ui9 < (↑p5 : Int))) <| ck (fitK (LK.i .u64) (pz ui9.toNat 0)) <| ck (okM [RS.one (LK.i .u64)] (qj [AV.ro 1 p4 qaa p0,AV.int .i64 ui9])) <| ck (decide ((h0e.length + 1) * 8 < 70368744177664)) <| ck (decide (h0e.length + 1 < 4611686018427387904)) <| kn (IntKind.u64.wrap (1 - IntKind.u64.wrap ((IntKind.u64.wrap (IntKind.u64.wrap (IntKind.u64.wrap (4294967296 + toI (pz ui9.toNat 0)) - toI (getV (qj [AV.ro 1 p4 qaa p0,AV.int .i64 ui9]))) - qbf)).tdiv 4294967296))) (IntKind.i64.wrap (ui9 + 1)) (h0e ++ [[AV.int .u64 ((IntKind.u64.wrap (IntKind.u64.wrap (IntKind.u64.wrap (4294967296 + toI (pz ui9.toNat 0)) - toI (getV (qj [AV.ro 1 p4 qaa p0,AV.int .i64 ui9]))) - qbf)).tmod 4294967296)]])
  else kx0 h0z h0e
noncomputable def gref02_NatSub_l0 (qa qj qc : Mo) (fuel : Nat) (kx0 : List AV → List (List AV) → Option AV) (p5 qak : Nat) (pz : Ge) (p4 qaa : Nat) (p0 : Ge) (h0z : List AV) : Nat → Int → Int → List (List AV) → Option AV
  | 0,_,_,_ => none
  | n' + 1,qbf,ui9,h0e => gref02_NatSub_l0_step qa qj qc fuel (gref02_NatSub_l0 qa qj qc fuel kx0 p5 qak pz p4 qaa p0 h0z n') kx0 p5 qak pz p4 qaa p0 h0z qbf ui9 h0e
noncomputable def Tref02_NatSub_0 : TS' := ⟨[(5,TA.ro 1),(6,TA.ro 1),(7,TA.lst 0 1),(8,TA.i .u64),(9,TA.i .i64)],[TB.fl 1],[0]⟩
noncomputable def Fref02_NatSub_0 (qa qj qc : Mo) (fuel : Nat) (ps : List Pay) (K : Ex → St → Option AV) : Option AV := match ps with
  | .n p5 :: .n qak :: .g pz :: .n p4 :: .n qaa :: .g p0 :: .i qbf :: .i ui9 :: .z h0z :: .e h0e :: [] => gref02_NatSub_l0 qa qj qc fuel (fun qcw qcp => K (Ex.exit 0) (Xref02_NatSub_0_0 qcw qcp)) p5 qak pz p4 qaa p0 h0z fuel qbf ui9 h0e
  | _ => none
noncomputable def Lref02_NatSub (qa qj qc : Mo) (fuel : Nat) : Lam AV := [(1099511596928,lam Tref02_NatSub_0 (Fref02_NatSub_0 qa qj qc fuel))]
noncomputable def Gref02_NatSub (qa qj qc : Mo) : Gam := [(66,smM [RS.one (LK.l (nat_lit 1))] qa),(69,smM [RS.one (LK.i .u64)] qj),(64,smM [RS.one (LK.l (nat_lit 1))] qc)]
theorem gref02_NatSub_l0_eq (qa qj qc : Mo) (fuel : Nat) (kn : St → Option AV) (K : Ex → St → Option AV) (p5 qak : Nat) (pz : Ge) (p4 qaa : Nat) (p0 : Ge) (h0z : List AV) (qje qjd : Int) (qec : List (List AV)) (qbf ui9 : Int) (h0e : List (List AV)) :
    bX Pr (Gref02_NatSub qa qj qc) (Lref02_NatSub qa qj qc fuel) 6 53 0 fuel (Sref02_NatSub_0 p5 qak pz p4 qaa p0 qbf ui9 h0z h0e) (fun e s => match e with | .normal => kn (hX Pr 53 0 (Sref02_NatSub_0 p5 qak pz p4 qaa p0 qje qjd h0z qec) s) | e => K e s) =
    gref02_NatSub_l0_step qa qj qc fuel (fun qbf ui9 h0e => kn (Sref02_NatSub_0 p5 qak pz p4 qaa p0 qbf ui9 h0z h0e)) (fun qbb qau => K (Ex.exit 0) (Xref02_NatSub_0_0 qbb qau)) p5 qak pz p4 qaa p0 h0z qbf ui9 h0e := by kernel_rfl
theorem gref02_NatSub_l0_ok (qa qj qc : Mo) (fuel : Nat) (K : Ex → St → Option AV) (p5 qak : Nat) (pz : Ge) (p4 qaa : Nat) (p0 : Ge) (h0z : List AV) (qje qjd : Int) (qec : List (List AV)) : ∀ (n' : Nat) (qbf ui9 : Int) (h0e : List (List AV)),
    loopK (bX Pr (Gref02_NatSub qa qj qc) (Lref02_NatSub qa qj qc fuel) 6 53 0 fuel) (hX Pr 53 0 (Sref02_NatSub_0 p5 qak pz p4 qaa p0 qje qjd h0z qec)) n' (Sref02_NatSub_0 p5 qak pz p4 qaa p0 qbf ui9 h0z h0e) K = gref02_NatSub_l0 qa qj qc fuel (fun qbb qau => K (Ex.exit 0) (Xref02_NatSub_0_0 qbb qau)) p5 qak pz p4 qaa p0 h0z n' qbf ui9 h0e
  | 0,_,_,_ => rfl
  | n' + 1,qbf,ui9,h0e => (gref02_NatSub_l0_eq qa qj qc fuel (fun s => loopK (bX Pr (Gref02_NatSub qa qj qc) (Lref02_NatSub qa qj qc fuel) 6 53 0 fuel) (hX Pr 53 0 (Sref02_NatSub_0 p5 qak pz p4 qaa p0 qje qjd h0z qec)) n' s K) K p5 qak pz p4 qaa p0 h0z qje qjd qec qbf ui9 h0e).trans
    (congrArg (fun kn => gref02_NatSub_l0_step qa qj qc fuel kn _ p5 qak pz p4 qaa p0 h0z qbf ui9 h0e) (funext fun qbf => funext fun ui9 => funext fun h0e => gref02_NatSub_l0_ok qa qj qc fuel K p5 qak pz p4 qaa p0 h0z qje qjd qec n' qbf ui9 h0e))
theorem gref02_NatSub_L0 (qa qj qc : Mo) (fuel : Nat) : LX Pr (Gref02_NatSub qa qj qc) (Lref02_NatSub qa qj qc fuel) 6 53 0 fuel := by
  refine .of Tref02_NatSub_0 (Fref02_NatSub_0 qa qj qc fuel) (fun L h => ?_) (fun ps st K r he hr => ?_)
  · have e : (Lref02_NatSub qa qj qc fuel).get (writes (lp Pr 53 0).1) = some (lam Tref02_NatSub_0 (Fref02_NatSub_0 qa qj qc fuel)) := by kernel_rfl
    exact (Option.some.inj (e.symm.trans h)).symm
  · unfold Fref02_NatSub_0 at hr
    split at hr
    · obtain rfl := (Option.some.inj he).symm
      exact (gref02_NatSub_l0_ok qa qj qc fuel K _ _ _ _ _ _ _ _ _ _ fuel _ _ _).trans hr
    · cases hr
noncomputable def gref02_NatSub (qa qj qc : Mo) (fuel qbz qbx : Nat) (qby : Ge) (qg7 qg2 : Nat) (qga : Ge) : Option AV :=
  let r0 : Option AV := qa [AV.ro 1 qbz qbx qby]; ck (okM [RS.one (LK.l 1)] r0) <| let r1 : Option AV := qa [AV.ro 1 qg7 qg2 qga]; ck (okM [RS.one (LK.l 1)] r1) <| gref02_NatSub_l0 qa qj qc fuel
    (fun (qbb : List AV) (qau : List (List AV)) => let r2 : Option AV := qc [AV.ro 1 qau.length qau.length fun (i j : Nat) => (qau.getD i qbb).getD j AV.dead]; ck (okM [RS.one (LK.l 1)] r2) <| some (AV.ro 1 (toN (getV r2)) (toR (getV r2)) (toG (getV r2))))
    (toN (getV r0))
    (toR (getV r0))
    (toG (getV r0))
    (toN (getV r1))
    (toR (getV r1))
    (toG (getV r1))
    ([AV.int .u64 0]) fuel (0) (0) ([])
noncomputable def mref02_NatSub (qa qj qc : Mo) (fuel : Nat) (xs : List AV) : Option AV := match xs with
  | [AV.ro 1 qbz qbx qby,AV.ro 1 qg7 qg2 qga] => gref02_NatSub qa qj qc fuel qbz qbx qby qg7 qg2 qga
  | _ => none
abbrev Rref02_NatSub : List RS := [RS.one (LK.l (nat_lit 1))]
theorem gref02_NatSub_sm (qa qj qc : Mo) (fuel : Nat) (hΓ : GamOk Pr (Gref02_NatSub qa qj qc)) (hP : NamesOk Pr) : SmOk Pr 53 (smM Rref02_NatSub (mref02_NatSub qa qj qc fuel)) := smL (L := (Lref02_NatSub qa qj qc fuel)) (n := 1) hΓ hP (by kernel_rfl) (fun i hi => match i,hi with
  | 0,_ => gref02_NatSub_L0 qa qj qc fuel
  | i + 1,hi => absurd hi (by omega)) fun xs v h => by
  unfold mref02_NatSub at h
  split at h
  · exact Eq.trans (by kernel_rfl) h
  · cases h
noncomputable def Gref02_Plus (q1 vz : Mo) (z7 zz z0 : Mo) : Gam := [(48,smM [RS.one LK.b] q1),(50,smM [RS.one (LK.l (nat_lit 1))] vz),(51,smM [RS.one (LK.l (nat_lit 1))] z7),(52,smM [RS.one (LK.i .i64)] zz),(53,smM [RS.one (LK.l (nat_lit 1))] z0)]
noncomputable def gref02_Plus (q1 vz : Mo) (z7 zz z0 : Mo) (fuel : Nat) (vs : Bool) (zb zc : Nat) (za : Ge) (va : Int) (qar : Bool) (y2 y3 : Nat) (y4 : Ge) (qac : Int) : Option AV :=
  ck (okM [RS.one LK.b] (q1 [AV.agg [AV.bool vs,AV.ro 1 zb zc za,AV.int .i64 va]])) <| bif toB (getV (q1 [AV.agg [AV.bool vs,AV.ro 1 zb zc za,AV.int .i64 va]])) then some (AV.agg [AV.bool qar,AV.ro 1 y2 y3 y4,AV.int .i64 qac])
  else ck (okM [RS.one LK.b] (q1 [AV.agg [AV.bool qar,AV.ro 1 y2 y3 y4,AV.int .i64 qac]])) <| bif toB (getV (q1 [AV.agg [AV.bool qar,AV.ro 1 y2 y3 y4,AV.int .i64 qac]])) then some (AV.agg [AV.bool vs,AV.ro 1 zb zc za,AV.int .i64 va])
  else bif decide (va > qac) then ck (okM [RS.one LK.b] (q1 [AV.agg [AV.bool qar,AV.ro 1 y2 y3 y4,AV.int .i64 qac]])) <| bif toB (getV (q1 [AV.agg [AV.bool qar,AV.ro 1 y2 y3 y4,AV.int .i64 qac]])) then some (AV.agg [AV.bool vs,AV.ro 1 zb zc za,AV.int .i64 va])
    else ck (okM [RS.one LK.b] (q1 [AV.agg [AV.bool vs,AV.ro 1 zb zc za,AV.int .i64 va]])) <| bif toB (getV (q1 [AV.agg [AV.bool vs,AV.ro 1 zb zc za,AV.int .i64 va]])) then some (AV.agg [AV.bool qar,AV.ro 1 y2 y3 y4,AV.int .i64 qac])
    else bif decide (qac > va) then ck (okM [RS.one LK.b] (q1 [AV.agg [AV.bool vs,AV.ro 1 zb zc za,AV.int .i64 va]])) <| bif toB (getV (q1 [AV.agg [AV.bool vs,AV.ro 1 zb zc za,AV.int .i64 va]])) then some (AV.agg [AV.bool qar,AV.ro 1 y2 y3 y4,AV.int .i64 qac])
      else ck (okM [RS.one LK.b] (q1 [AV.agg [AV.bool qar,AV.ro 1 y2 y3 y4,AV.int .i64 qac]])) <| bif toB (getV (q1 [AV.agg [AV.bool qar,AV.ro 1 y2 y3 y4,AV.int .i64 qac]])) then some (AV.agg [AV.bool vs,AV.ro 1 zb zc za,AV.int .i64 va])
      else bif decide (va > qac) then none
      else let r0 : Option AV := vz [AV.ro 1 y2 y3 y4,AV.int .i64 (IntKind.i64.wrap (qac - va))]; ck (okM [RS.one (LK.l (nat_lit 1))] r0) <| bif vs == qar then let r1 : Option AV := z7 [AV.ro 1 zb zc za,AV.ro 1 (toN (getV r0)) (toR (getV r0)) (toG (getV r0))]; ck (okM [RS.one (LK.l (nat_lit 1))] r1) <| some (AV.agg [AV.bool vs,AV.ro 1 (toN (getV r1)) (toR (getV r1)) (toG (getV r1)),AV.int .i64 va])
      else ck (okM [RS.one (LK.i .i64)] (zz [AV.ro 1 zb zc za,AV.ro 1 (toN (getV r0)) (toR (getV r0)) (toG (getV r0))])) <| bif decide (toI (getV (zz [AV.ro 1 zb zc za,AV.ro 1 (toN (getV r0)) (toR (getV r0)) (toG (getV r0))])) ≥ 0) then let r2 : Option AV := z0 [AV.ro 1 zb zc za,AV.ro 1 (toN (getV r0)) (toR (getV r0)) (toG (getV r0))]; ck (okM [RS.one (LK.l (nat_lit 1))] r2) <| some (AV.agg [AV.bool vs,AV.ro 1 (toN (getV r2)) (toR (getV r2)) (toG (getV r2)),AV.int .i64 va])
      else let r3 : Option AV := z0 [AV.ro 1 (toN (getV r0)) (toR (getV r0)) (toG (getV r0)),AV.ro 1 zb zc za]; ck (okM [RS.one (LK.l (nat_lit 1))] r3) <| some (AV.agg [AV.bool qar,AV.ro 1 (toN (getV r3)) (toR (getV r3)) (toG (getV r3)),AV.int .i64 va])
    else let r4 : Option AV := vz [AV.ro 1 zb zc za,AV.int .i64 (IntKind.i64.wrap (va - qac))]; ck (okM [RS.one (LK.l (nat_lit 1))] r4) <| bif qar == vs then let r5 : Option AV := z7 [AV.ro 1 y2 y3 y4,AV.ro 1 (toN (getV r4)) (toR (getV r4)) (toG (getV r4))]; ck (okM [RS.one (LK.l (nat_lit 1))] r5) <| some (AV.agg [AV.bool qar,AV.ro 1 (toN (getV r5)) (toR (getV r5)) (toG (getV r5)),AV.int .i64 qac])
    else ck (okM [RS.one (LK.i .i64)] (zz [AV.ro 1 y2 y3 y4,AV.ro 1 (toN (getV r4)) (toR (getV r4)) (toG (getV r4))])) <| bif decide (toI (getV (zz [AV.ro 1 y2 y3 y4,AV.ro 1 (toN (getV r4)) (toR (getV r4)) (toG (getV r4))])) ≥ 0) then let r6 : Option AV := z0 [AV.ro 1 y2 y3 y4,AV.ro 1 (toN (getV r4)) (toR (getV r4)) (toG (getV r4))]; ck (okM [RS.one (LK.l (nat_lit 1))] r6) <| some (AV.agg [AV.bool qar,AV.ro 1 (toN (getV r6)) (toR (getV r6)) (toG (getV r6)),AV.int .i64 qac])
    else let r7 : Option AV := z0 [AV.ro 1 (toN (getV r4)) (toR (getV r4)) (toG (getV r4)),AV.ro 1 y2 y3 y4]; ck (okM [RS.one (LK.l (nat_lit 1))] r7) <| some (AV.agg [AV.bool vs,AV.ro 1 (toN (getV r7)) (toR (getV r7)) (toG (getV r7)),AV.int .i64 qac])
  else let r8 : Option AV := vz [AV.ro 1 y2 y3 y4,AV.int .i64 (IntKind.i64.wrap (qac - va))]; ck (okM [RS.one (LK.l 1)] r8) <| bif vs == qar then let r9 : Option AV := z7 [AV.ro 1 zb zc za,AV.ro 1 (toN (getV r8)) (toR (getV r8)) (toG (getV r8))]; ck (okM [RS.one (LK.l 1)] r9) <| some (AV.agg [AV.bool vs,AV.ro 1 (toN (getV r9)) (toR (getV r9)) (toG (getV r9)),AV.int .i64 va])
  else ck (okM [RS.one (LK.i .i64)] (zz [AV.ro 1 zb zc za,AV.ro 1 (toN (getV r8)) (toR (getV r8)) (toG (getV r8))])) <| bif decide (toI (getV (zz [AV.ro 1 zb zc za,AV.ro 1 (toN (getV r8)) (toR (getV r8)) (toG (getV r8))])) ≥ 0) then let r10 : Option AV := z0 [AV.ro 1 zb zc za,AV.ro 1 (toN (getV r8)) (toR (getV r8)) (toG (getV r8))]; ck (okM [RS.one (LK.l 1)] r10) <| some (AV.agg [AV.bool vs,AV.ro 1 (toN (getV r10)) (toR (getV r10)) (toG (getV r10)),AV.int .i64 va])
  else let r11 : Option AV := z0 [AV.ro 1 (toN (getV r8)) (toR (getV r8)) (toG (getV r8)),AV.ro 1 zb zc za]; ck (okM [RS.one (LK.l 1)] r11) <| some (AV.agg [AV.bool qar,AV.ro 1 (toN (getV r11)) (toR (getV r11)) (toG (getV r11)),AV.int .i64 va])
noncomputable def mref02_Plus (q1 vz : Mo) (z7 zz z0 : Mo) (fuel : Nat) (xs : List AV) : Option AV := match xs with
  | [AV.agg [AV.bool vs,AV.ro 1 zb zc za,AV.int .i64 va],AV.agg [AV.bool qar,AV.ro 1 y2 y3 y4,AV.int .i64 qac]] => gref02_Plus q1 vz z7 zz z0 fuel vs zb zc za va qar y2 y3 y4 qac
  | _ => none
abbrev Rref02_Plus : List RS := [RS.agg [LK.b,LK.l (nat_lit 1),LK.i .i64]]
theorem gref02_Plus_sm (q1 vz : Mo) (z7 zz z0 : Mo) (fuel : Nat) (hΓ : GamOk Pr (Gref02_Plus q1 vz z7 zz z0)) (hP : NamesOk Pr) : SmOk Pr 26 (smM Rref02_Plus (mref02_Plus q1 vz z7 zz z0 fuel)) := sm0 (fuel := fuel) (d := 3) hΓ hP fun xs v h => by
  unfold mref02_Plus at h
  split at h
  · exact Eq.trans (by kernel_rfl) h
  · cases h
noncomputable def Gref02_Compare (wy zd : Mo) (yd yz : Mo) : Gam := [(24,smM [RS.one (LK.i .i64)] wy),(25,smM [RS.one (LK.i .i64)] zd),(27,smM [RS.agg [LK.b,LK.l (nat_lit 1),LK.i .i64]] yd),(26,smM [RS.agg [LK.b,LK.l (nat_lit 1),LK.i .i64]] yz)]
noncomputable def gref02_Compare (wy zd : Mo) (yd yz : Mo) (fuel : Nat) (vs : Bool) (zb zc : Nat) (za : Ge) (va : Int) (qar : Bool) (y2 y3 : Nat) (y4 : Ge) (qac : Int) : Option AV :=
  ck (okM [RS.one (LK.i .i64)] (wy [AV.agg [AV.bool vs,AV.ro 1 zb zc za,AV.int .i64 va]])) <| ck (okM [RS.one (LK.i .i64)] (wy [AV.agg [AV.bool qar,AV.ro 1 y2 y3 y4,AV.int .i64 qac]])) <| bif bif toI (getV (wy [AV.agg [AV.bool vs,AV.ro 1 zb zc za,AV.int .i64 va]])) != toI (getV (wy [AV.agg [AV.bool qar,AV.ro 1 y2 y3 y4,AV.int .i64 qac]])) then true else toI (getV (wy [AV.agg [AV.bool vs,AV.ro 1 zb zc za,AV.int .i64 va]])) == 0 then bif decide (toI (getV (wy [AV.agg [AV.bool vs,AV.ro 1 zb zc za,AV.int .i64 va]])) < toI (getV (wy [AV.agg [AV.bool qar,AV.ro 1 y2 y3 y4,AV.int .i64 qac]]))) then some (AV.int .i64 (-1))
    else bif decide (toI (getV (wy [AV.agg [AV.bool vs,AV.ro 1 zb zc za,AV.int .i64 va]])) > toI (getV (wy [AV.agg [AV.bool qar,AV.ro 1 y2 y3 y4,AV.int .i64 qac]]))) then some (AV.int .i64 1)
    else some (AV.int .i64 0)
  else ck (okM [RS.one (LK.i .i64)] (zd [AV.agg [AV.bool vs,AV.ro 1 zb zc za,AV.int .i64 va]])) <| ck (okM [RS.one (LK.i .i64)] (zd [AV.agg [AV.bool qar,AV.ro 1 y2 y3 y4,AV.int .i64 qac]])) <| bif toI (getV (zd [AV.agg [AV.bool vs,AV.ro 1 zb zc za,AV.int .i64 va]])) != toI (getV (zd [AV.agg [AV.bool qar,AV.ro 1 y2 y3 y4,AV.int .i64 qac]])) then ck (okM [RS.one (LK.i .i64)] (zd [AV.agg [AV.bool vs,AV.ro 1 zb zc za,AV.int .i64 va]])) <| ck (okM [RS.one (LK.i .i64)] (zd [AV.agg [AV.bool qar,AV.ro 1 y2 y3 y4,AV.int .i64 qac]])) <| bif decide (toI (getV (zd [AV.agg [AV.bool vs,AV.ro 1 zb zc za,AV.int .i64 va]])) < toI (getV (zd [AV.agg [AV.bool qar,AV.ro 1 y2 y3 y4,AV.int .i64 qac]]))) then some (AV.int .i64 (IntKind.i64.wrap (0 - toI (getV (wy [AV.agg [AV.bool vs,AV.ro 1 zb zc za,AV.int .i64 va]])))))
    else some (AV.int .i64 (toI (getV (wy [AV.agg [AV.bool vs,AV.ro 1 zb zc za,AV.int .i64 va]]))))
  else let r0 : Option AV := yd [AV.agg [AV.bool qar,AV.ro 1 y2 y3 y4,AV.int .i64 qac]]; ck (okM [RS.agg [LK.b,LK.l 1,LK.i .i64]] r0) <| let r1 : Option AV := yz [AV.agg [AV.bool vs,AV.ro 1 zb zc za,AV.int .i64 va],AV.agg [AV.bool (toB ((toC (getV r0)).headD .dead)),AV.ro 1 (toN ((toC (getV r0)).tail.headD .dead)) (toR ((toC (getV r0)).tail.headD .dead)) (toG ((toC (getV r0)).tail.headD .dead)),AV.int .i64 (toI ((toC (getV r0)).tail.tail.headD .dead))]]; ck (okM [RS.agg [LK.b,LK.l 1,LK.i .i64]] r1) <| ck (okM [RS.one (LK.i .i64)] (wy [AV.agg [AV.bool (toB ((toC (getV r1)).headD .dead)),AV.ro 1 (toN ((toC (getV r1)).tail.headD .dead)) (toR ((toC (getV r1)).tail.headD .dead)) (toG ((toC (getV r1)).tail.headD .dead)),AV.int .i64 (toI ((toC (getV r1)).tail.tail.headD .dead))]])) <| some (AV.int .i64 (toI (getV (wy [AV.agg [AV.bool (toB ((toC (getV r1)).headD .dead)),AV.ro 1 (toN ((toC (getV r1)).tail.headD .dead)) (toR ((toC (getV r1)).tail.headD .dead)) (toG ((toC (getV r1)).tail.headD .dead)),AV.int .i64 (toI ((toC (getV r1)).tail.tail.headD .dead))]]))))
noncomputable def mref02_Compare (wy zd : Mo) (yd yz : Mo) (fuel : Nat) (xs : List AV) : Option AV := match xs with
  | [AV.agg [AV.bool vs,AV.ro 1 zb zc za,AV.int .i64 va],AV.agg [AV.bool qar,AV.ro 1 y2 y3 y4,AV.int .i64 qac]] => gref02_Compare wy zd yd yz fuel vs zb zc za va qar y2 y3 y4 qac
  | _ => none
abbrev Rref02_Compare : List RS := [RS.one (LK.i .i64)]
theorem gref02_Compare_sm (wy zd : Mo) (yd yz : Mo) (fuel : Nat) (hΓ : GamOk Pr (Gref02_Compare wy zd yd yz)) (hP : NamesOk Pr) : SmOk Pr 10 (smM Rref02_Compare (mref02_Compare wy zd yd yz fuel)) := sm0 (fuel := fuel) (d := 7) hΓ hP fun xs v h => by
  unfold mref02_Compare at h
  split at h
  · exact Eq.trans (by kernel_rfl) h
  · cases h
noncomputable def Glaw19_beam : Gam := []
noncomputable def glaw19_beam (fuel : Nat) (ua0 ub1 : Bool) : Option AV :=
  some (AV.agg [AV.str { data := #[] },AV.int .u8 2,AV.int .i64 0,AV.int .i64 0,AV.bool ua0,AV.bool ub1,AV.flt .f64 (some 0),AV.flt .f64 (some 0),AV.flt .f64 (some 4619567317775286272)])
noncomputable def mlaw19_beam (fuel : Nat) (xs : List AV) : Option AV := match xs with
  | [AV.bool ua0,AV.bool ub1] => glaw19_beam fuel ua0 ub1
  | _ => none
abbrev Rlaw19_beam : List RS := [RS.agg [LK.s,LK.i .u8,LK.i .i64,LK.i .i64,LK.b,LK.b,LK.f .f64,LK.f .f64,LK.f .f64]]
theorem glaw19_beam_sm (fuel : Nat) (hΓ : GamOk Pr Glaw19_beam) (hP : NamesOk Pr) : SmOk Pr 29 (smM Rlaw19_beam (mlaw19_beam fuel)) := sm0 (fuel := fuel) (d := 7) hΓ hP fun xs v h => by
  unfold mlaw19_beam at h
  split at h
  · exact Eq.trans (by kernel_rfl) h
  · cases h
noncomputable def Glaw19_three : Gam := []
noncomputable def glaw19_three (fuel : Nat) (qha : ByteArray) (qd4 qfg qhe : Int) (qep qe3 : Bool) (qfs qf4 qe0 : Option Nat) : Option AV :=
  some (AV.agg [AV.ro 4 2 2 fun (i j : Nat) => ([[AV.str { data := #[(97 : UInt8)] },AV.int .i32 0,AV.int .i32 0,AV.int .u8 0],[AV.str { data := #[(98 : UInt8)] },AV.int .i32 3,AV.int .i32 4,AV.int .u8 0]].getD i [AV.str { data := #[] },AV.int .i32 0,AV.int .i32 0,AV.int .u8 0]).getD j AV.dead,AV.ro 9 [[AV.str { data := #[(109 : UInt8)] },AV.int .u8 qd4,AV.int .i64 qfg,AV.int .i64 1,AV.bool qep,AV.bool qe3,AV.flt .f64 (some 4611686018427387904),AV.flt .f64 (some 4617315517961601024),AV.flt .f64 qe0]].length [[AV.str { data := #[(109 : UInt8)] },AV.int .u8 qd4,AV.int .i64 qfg,AV.int .i64 1,AV.bool qep,AV.bool qe3,AV.flt .f64 (some 4611686018427387904),AV.flt .f64 (some 4617315517961601024),AV.flt .f64 qe0]].length fun (i j : Nat) => ([[AV.str { data := #[(109 : UInt8)] },AV.int .u8 qd4,AV.int .i64 qfg,AV.int .i64 1,AV.bool qep,AV.bool qe3,AV.flt .f64 (some 4611686018427387904),AV.flt .f64 (some 4617315517961601024),AV.flt .f64 qe0]].getD i [AV.str { data := #[] },AV.int .u8 0,AV.int .i64 0,AV.int .i64 0,AV.bool false,AV.bool false,AV.flt .f64 (some 0),AV.flt .f64 (some 0),AV.flt .f64 (some 0)]).getD j AV.dead])
noncomputable def mlaw19_three (fuel : Nat) (xs : List AV) : Option AV := match xs with
  | [AV.agg [AV.str qha,AV.int .u8 qd4,AV.int .i64 qfg,AV.int .i64 qhe,AV.bool qep,AV.bool qe3,AV.flt .f64 qfs,AV.flt .f64 qf4,AV.flt .f64 qe0]] => glaw19_three fuel qha qd4 qfg qhe qep qe3 qfs qf4 qe0
  | _ => none
abbrev Rlaw19_three : List RS := [RS.agg [LK.l (nat_lit 4),LK.l (nat_lit 9)]]
theorem glaw19_three_sm (fuel : Nat) (hΓ : GamOk Pr Glaw19_three) (hP : NamesOk Pr) : SmOk Pr 28 (smM Rlaw19_three (mlaw19_three fuel)) := sm0 (fuel := fuel) (d := 7) hΓ hP fun xs v h => by
  unfold mlaw19_three at h
  split at h
  · exact Eq.trans (by kernel_rfl) h
  · cases h
end Go.Proofs.Tryz
end
section
namespace Go.Proofs.Tryz
open Go Go.Am
set_option linter.unusedVariables false
set_option maxRecDepth 1000000
noncomputable def Sbars_places_0 (vc qat : Nat) (qbk qin qi5 : Nat) (p1 : Ge) (u20 u21 : Int) (zx zy : Nat) (zw : Ge) (wt wu : Nat) (wv : Ge) (ys : Int) (h2z : List AV) (h2e : List (List AV)) (h3z : List AV) (h3e : List (List AV)) : St := { env := [(1,AV.ptr 0 0),(2,AV.ptr 1 0),(3,AV.own 2 vc 1 qat qbk),(19,AV.ro 9 qin qi5 p1),(20,AV.int .i64 u20),(21,AV.int .i64 u21)],h := [Blk.box [AV.ro 4 zx zy zw,AV.ro 9 wt wu wv],Blk.box [AV.lst 3 3,AV.int .i64 ys],Blk.fx 1 h2z h2e,Blk.fl 3 h3z h3e],kd := [3] }
noncomputable def Xbars_places_0_0 (qlk qlj : Nat) (qlb qb7 qcb : Nat) (qb3 : Ge) (qap qao : Nat) (qan : Ge) (qhk : Int) (qzf : List AV) (qza : List (List AV)) (qlm : List AV) (qlv : List (List AV)) : St := { env := [(1,AV.ptr 0 0),(2,AV.ptr 1 0),(3,AV.own 2 qlk 1 qlj qlb)],h := [Blk.box [AV.ro 4 qb7 qcb qb3,AV.ro 9 qap qao qan],Blk.box [AV.lst 3 3,AV.int .i64 qhk],Blk.fx 1 qzf qza,Blk.fl 3 qlm qlv],kd := [3] }
noncomputable def gbars_places_l0_step (qd : Mo) (fuel : Nat) (kn : Int → List (List AV) → Option AV) (kx0 : Nat → Nat → Nat → Nat → Nat → Ge → Nat → Nat → Ge → Int → List AV → List (List AV) → List AV → List (List AV) → Option AV) (vc qat : Nat) (qbk qin qi5 : Nat) (p1 : Ge) (u20 : Int) (zx zy : Nat) (zw : Ge) (wt wu : Nat) (wv : Ge) (ys : Int) (h2z h3z : List AV) (h3e : List (List AV)) (u21 : Int) (h2e : List (List AV)) : Option AV :=
  bif decide (u21 < u20) then ck (decide (0 ≤ u21)) <| ck (decide (u21 < (↑qin : Int))) <| ck (fitKs [LK.s,LK.i .u8,LK.i .i64,LK.i .i64,LK.b,LK.b,LK.f .f64,LK.f .f64,LK.f .f64] [p1 u21.toNat 0,p1 u21.toNat 1,p1 u21.toNat 2,p1 u21.toNat 3,p1 u21.toNat 4,p1 u21.toNat 5,p1 u21.toNat 6,p1 u21.toNat 7,p1 u21.toNat 8]) <| let r0 : Option AV := qd [AV.agg [AV.str (toS (p1 u21.toNat 0)),AV.int .u8 (toI (p1 u21.toNat 1)),AV.int .i64 (toI (p1 u21.toNat 2)),AV.int .i64 (toI (p1 u21.toNat 3)),AV.bool (toB (p1 u21.toNat 4)),AV.bool (toB (p1 u21.toNat 5)),AV.flt .f64 (toF (p1 u21.toNat 6)),AV.flt .f64 (toF (p1 u21.toNat 7)),AV.flt .f64 (toF (p1 u21.toNat 8))]]; ck (okM [RS.one LK.b,RS.one LK.b] r0) <| ck (decide (0 ≤ toI (p1 u21.toNat 2))) <| ck (decide (toI (p1 u21.toNat 2) < (↑qat : Int))) <| ck (fitK LK.b ((h2e.getD (vc + (toI (p1 u21.toNat 2)).toNat) h2z).getD 0 AV.dead)) <| ck (decide (0 ≤ toI (p1 u21.toNat 2))) <| ck (decide (toI (p1 u21.toNat 2) < (↑qat : Int))) <| ck (decide (0 ≤ toI (p1 u21.toNat 3))) <| ck (decide (toI (p1 u21.toNat 3) < (↑qat : Int))) <| ck (fitK LK.b (((h2e.set (vc + (toI (p1 u21.toNat 2)).toNat) (AV.bool (bif toB ((h2e.getD (vc + (toI (p1 u21.toNat 2)).toNat) h2z).getD 0 AV.dead) then true else toB ((toT (getV r0)).headD .dead)) :: List.drop (0 + [AV.bool (bif toB ((h2e.getD (vc + (toI (p1 u21.toNat 2)).toNat) h2z).getD 0 AV.dead) then true else toB ((toT (getV r0)).headD .dead))].length) (h2e.getD (vc + (toI (p1 u21.toNat 2)).toNat) h2z))).getD (vc + (toI (p1 u21.toNat 3)).toNat) h2z).getD 0 AV.dead)) <| ck (decide (0 ≤ toI (p1 u21.toNat 3))) <| ck (decide (toI (p1 u21.toNat 3) < (↑qat : Int))) <| kn (IntKind.i64.wrap (u21 + 1)) ((h2e.set (vc + (toI (p1 u21.toNat 2)).toNat) (AV.bool (bif toB ((h2e.getD (vc + (toI (p1 u21.toNat 2)).toNat) h2z).getD 0 AV.dead) then true else toB ((toT (getV r0)).headD .dead)) :: List.drop (0 + [AV.bool (bif toB ((h2e.getD (vc + (toI (p1 u21.toNat 2)).toNat) h2z).getD 0 AV.dead) then true else toB ((toT (getV r0)).headD .dead))].length) (h2e.getD (vc + (toI (p1 u21.toNat 2)).toNat) h2z))).set (vc + (toI (p1 u21.toNat 3)).toNat) (AV.bool (bif toB (((h2e.set (vc + (toI (p1 u21.toNat 2)).toNat) (AV.bool (bif toB ((h2e.getD (vc + (toI (p1 u21.toNat 2)).toNat) h2z).getD 0 AV.dead) then true else toB ((toT (getV r0)).headD .dead)) :: List.drop (0 + [AV.bool (bif toB ((h2e.getD (vc + (toI (p1 u21.toNat 2)).toNat) h2z).getD 0 AV.dead) then true else toB ((toT (getV r0)).headD .dead))].length) (h2e.getD (vc + (toI (p1 u21.toNat 2)).toNat) h2z))).getD (vc + (toI (p1 u21.toNat 3)).toNat) h2z).getD 0 AV.dead) then true else toB ((toT (getV r0)).tail.headD .dead)) :: List.drop (0 + [AV.bool (bif toB (((h2e.set (vc + (toI (p1 u21.toNat 2)).toNat) (AV.bool (bif toB ((h2e.getD (vc + (toI (p1 u21.toNat 2)).toNat) h2z).getD 0 AV.dead) then true else toB ((toT (getV r0)).headD .dead)) :: List.drop (0 + [AV.bool (bif toB ((h2e.getD (vc + (toI (p1 u21.toNat 2)).toNat) h2z).getD 0 AV.dead) then true else toB ((toT (getV r0)).headD .dead))].length) (h2e.getD (vc + (toI (p1 u21.toNat 2)).toNat) h2z))).getD (vc + (toI (p1 u21.toNat 3)).toNat) h2z).getD 0 AV.dead) then true else toB ((toT (getV r0)).tail.headD .dead))].length) ((h2e.set (vc + (toI (p1 u21.toNat 2)).toNat) (AV.bool (bif toB ((h2e.getD (vc + (toI (p1 u21.toNat 2)).toNat) h2z).getD 0 AV.dead) then true else toB ((toT (getV r0)).headD .dead)) :: List.drop (0 + [AV.bool (bif toB ((h2e.getD (vc + (toI (p1 u21.toNat 2)).toNat) h2z).getD 0 AV.dead) then true else toB ((toT (getV r0)).headD .dead))].length) (h2e.getD (vc + (toI (p1 u21.toNat 2)).toNat) h2z))).getD (vc + (toI (p1 u21.toNat 3)).toNat) h2z)))
  else kx0 vc qat qbk zx zy zw wt wu wv ys h2z h2e h3z h3e
noncomputable def gbars_places_l0 (qd : Mo) (fuel : Nat) (kx0 : Nat → Nat → Nat → Nat → Nat → Ge → Nat → Nat → Ge → Int → List AV → List (List AV) → List AV → List (List AV) → Option AV) (vc qat : Nat) (qbk qin qi5 : Nat) (p1 : Ge) (u20 : Int) (zx zy : Nat) (zw : Ge) (wt wu : Nat) (wv : Ge) (ys : Int) (h2z h3z : List AV) (h3e : List (List AV)) : Nat → Int → List (List AV) → Option AV
  | 0,_,_ => none
  | n' + 1,u21,h2e => gbars_places_l0_step qd fuel (gbars_places_l0 qd fuel kx0 vc qat qbk qin qi5 p1 u20 zx zy zw wt wu wv ys h2z h3z h3e n') kx0 vc qat qbk qin qi5 p1 u20 zx zy zw wt wu wv ys h2z h3z h3e u21 h2e
termination_by structural k => k
noncomputable def Tbars_places_0 : TS' := ⟨[(1,TA.ptr 0 0),(2,TA.ptr 1 0),(3,TA.own 2 1),(19,TA.ro 9),(20,TA.i .i64),(21,TA.i .i64)],[TB.box [TA.ro 4,TA.ro 9],TB.box [TA.lst 3 3,TA.i .i64],TB.fx 1,TB.fl 3],[3]⟩
noncomputable def Fbars_places_0 (qd : Mo) (fuel : Nat) (ps : List Pay) (K : Ex → St → Option AV) : Option AV := match ps with
  | .n vc :: .n qat :: .n qbk :: .n qin :: .n qi5 :: .g p1 :: .i u20 :: .i u21 :: .n zx :: .n zy :: .g zw :: .n wt :: .n wu :: .g wv :: .i ys :: .z h2z :: .e h2e :: .z h3z :: .e h3e :: [] => gbars_places_l0 qd fuel (fun qlk qlj qlb qb7 qcb qb3 qap qao qan qhk qzf qza qlm qlv => K (Ex.exit 0) (Xbars_places_0_0 qlk qlj qlb qb7 qcb qb3 qap qao qan qhk qzf qza qlm qlv)) vc qat qbk qin qi5 p1 u20 zx zy zw wt wu wv ys h2z h3z h3e fuel u21 h2e
  | _ => none
noncomputable def Sbars_places_1 (pf pi pm : Nat) (ui9 : Int) (qcy qco : Nat) (qcq : Ge) (qe5 qfc : Int) (qeu qes : Int) (qe1 u65 : Int) (qbe qbj : Nat) (qbd : Ge) (v5 v1 : Nat) (v2 : Ge) (qc1 : Int) (qd6 : List AV) (qea : List (List AV)) (qas : List AV) (qam : List (List AV)) (qa9 : Int) (pj : List AV) (ph : List (List AV)) (qio : ByteArray) (qij qid : Int) (qh7 qcl : Int) (qbs qch : Int) : St := { env := [(2,AV.ptr 1 0),(3,AV.own 2 pf 1 pi pm),(8,AV.ptr 4 0),(9,AV.int .i64 ui9),(10,AV.ptr 6 0),(11,AV.ptr 7 0),(56,AV.ro 4 qcy qco qcq),(57,AV.int .i64 qe5),(58,AV.int .i64 qfc),(64,AV.agg [AV.int .u8 qeu,AV.int .u8 qes,AV.int .u8 qe1]),(65,AV.int .i64 u65)],h := [Blk.box [AV.ro 4 qbe qbj qbd,AV.ro 9 v5 v1 v2],Blk.box [AV.lst 3 3,AV.int .i64 qc1],Blk.fx 1 qd6 qea,Blk.fl 3 qas qam,Blk.box [AV.lst 5 3,AV.int .i64 qa9],Blk.fl 3 pj ph,Blk.box [AV.str qio,AV.int .i32 qij,AV.int .i32 qid,AV.int .u8 qh7],Blk.box [AV.int .i64 qcl,AV.int .i64 qbs,AV.int .i64 qch]],kd := [5,3] }
noncomputable def Xbars_places_1_0 (qls qlf : Nat) (qll qwk qyb : Nat) (qxe : Ge) (q0e qzn : Int) (qs4 qrn : Nat) (qtr : Ge) (qfl qfk : Nat) (qfn : Ge) (qjp : Int) (qzm : List AV) (qyz : List (List AV)) (qlr : List AV) (qli : List (List AV)) (qxr : Int) (quv : List AV) (qlh : List (List AV)) (ql0 : ByteArray) (qwt ql1 : Int) (qxa qhs : Int) (qjo qhp : Int) : St := { env := [(2,AV.ptr 1 0),(3,AV.own 2 qls 1 qlf qll),(8,AV.ptr 4 0),(11,AV.ptr 7 0),(56,AV.ro 4 qwk qyb qxe),(57,AV.int .i64 q0e),(58,AV.int .i64 qzn)],h := [Blk.box [AV.ro 4 qs4 qrn qtr,AV.ro 9 qfl qfk qfn],Blk.box [AV.lst 3 3,AV.int .i64 qjp],Blk.fx 1 qzm qyz,Blk.fl 3 qlr qli,Blk.box [AV.lst 5 3,AV.int .i64 qxr],Blk.fl 3 quv qlh,Blk.box [AV.str ql0,AV.int .i32 qwt,AV.int .i32 ql1,AV.int .u8 qxa],Blk.box [AV.int .i64 qhs,AV.int .i64 qjo,AV.int .i64 qhp]],kd := [5,3] }
noncomputable def gbars_places_l1_step (qd : Mo) (fuel : Nat) (kn : Int → Int → Int → Int → Int → Option AV) (kx0 : Nat → Nat → Nat → Nat → Nat → Ge → Int → Int → Nat → Nat → Ge → Nat → Nat → Ge → Int → List AV → List (List AV) → List AV → List (List AV) → Int → List AV → List (List AV) → ByteArray → Int → Int → Int → Int → Int → Int → Option AV) (pf pi pm : Nat) (ui9 : Int) (qcy qco : Nat) (qcq : Ge) (qe5 qfc : Int) (qeu qes qe1 : Int) (qbe qbj : Nat) (qbd : Ge) (v5 v1 : Nat) (v2 : Ge) (qc1 : Int) (qd6 : List AV) (qea : List (List AV)) (qas : List AV) (qam : List (List AV)) (pj : List AV) (ph : List (List AV)) (qio : ByteArray) (qij qid : Int) (qh7 u65 : Int) (qa9 qcl : Int) (qbs qch : Int) : Option AV :=
  bif decide (u65 < 3) then ck (decide (0 ≤ u65)) <| ck (decide (u65 < (↑3 : Int))) <| ck (bif !decide (u65 < 2) then decide (0 ≤ ui9) else true) <| ck (bif !decide (u65 < 2) then decide (ui9 < (↑pi : Int)) else true) <| ck (bif !decide (u65 < 2) then fitK LK.b ((qea.getD (pf + ui9.toNat) qd6).getD 0 AV.dead) else true) <| bif bif IntKind.u8.wrap (↑(BitVec.ofInt 8 qh7 &&& BitVec.ofInt 8 (bif (u65.toNat * 1).beq 0 then qeu else bif (u65.toNat * 1 - 1).beq 0 then qes else qe1)).toNat : Int) == 0 then bif decide (u65 < 2) then true else toB ((qea.getD (pf + ui9.toNat) qd6).getD 0 AV.dead) else false then ck (decide (0 ≤ u65)) <| ck (decide (u65 < (↑3 : Int))) <| ck ((0 + u65.toNat * 1 + 1).ble [AV.int .i64 qcl,AV.int .i64 qbs,AV.int .i64 qch].length) <| kn (IntKind.i64.wrap (u65 + 1)) (IntKind.i64.wrap (qa9 + 1)) (bif (0 + u65.toNat * 1).ble 0 && true then qa9 else qcl) (bif (0 + u65.toNat * 1).ble 1 && Nat.blt 1 (0 + u65.toNat * 1 + [AV.int .i64 qa9].length) then qa9 else qbs) (bif (0 + u65.toNat * 1).ble 2 && Nat.blt 2 (0 + u65.toNat * 1 + [AV.int .i64 qa9].length) then qa9 else qch)
    else kn (IntKind.i64.wrap (u65 + 1)) qa9 qcl qbs qch
  else kx0 pf pi pm qcy qco qcq qe5 qfc qbe qbj qbd v5 v1 v2 qc1 qd6 qea qas qam qa9 pj ph qio qij qid qh7 qcl qbs qch
noncomputable def gbars_places_l1 (qd : Mo) (fuel : Nat) (kx0 : Nat → Nat → Nat → Nat → Nat → Ge → Int → Int → Nat → Nat → Ge → Nat → Nat → Ge → Int → List AV → List (List AV) → List AV → List (List AV) → Int → List AV → List (List AV) → ByteArray → Int → Int → Int → Int → Int → Int → Option AV) (pf pi pm : Nat) (ui9 : Int) (qcy qco : Nat) (qcq : Ge) (qe5 qfc : Int) (qeu qes qe1 : Int) (qbe qbj : Nat) (qbd : Ge) (v5 v1 : Nat) (v2 : Ge) (qc1 : Int) (qd6 : List AV) (qea : List (List AV)) (qas : List AV) (qam : List (List AV)) (pj : List AV) (ph : List (List AV)) (qio : ByteArray) (qij qid qh7 : Int) : Nat → Int → Int → Int → Int → Int → Option AV
  | 0,_,_,_,_,_ => none
  | n' + 1,u65,qa9,qcl,qbs,qch => gbars_places_l1_step qd fuel (gbars_places_l1 qd fuel kx0 pf pi pm ui9 qcy qco qcq qe5 qfc qeu qes qe1 qbe qbj qbd v5 v1 v2 qc1 qd6 qea qas qam pj ph qio qij qid qh7 n') kx0 pf pi pm ui9 qcy qco qcq qe5 qfc qeu qes qe1 qbe qbj qbd v5 v1 v2 qc1 qd6 qea qas qam pj ph qio qij qid qh7 u65 qa9 qcl qbs qch
termination_by structural k => k
noncomputable def Tbars_places_1 : TS' := ⟨[(2,TA.ptr 1 0),(3,TA.own 2 1),(8,TA.ptr 4 0),(9,TA.i .i64),(10,TA.ptr 6 0),(11,TA.ptr 7 0),(56,TA.ro 4),(57,TA.i .i64),(58,TA.i .i64),(64,TA.agg [TA.i .u8,TA.i .u8,TA.i .u8]),(65,TA.i .i64)],[TB.box [TA.ro 4,TA.ro 9],TB.box [TA.lst 3 3,TA.i .i64],TB.fx 1,TB.fl 3,TB.box [TA.lst 5 3,TA.i .i64],TB.fl 3,TB.box [TA.s,TA.i .i32,TA.i .i32,TA.i .u8],TB.box [TA.i .i64,TA.i .i64,TA.i .i64]],[5,3]⟩
noncomputable def Fbars_places_1 (qd : Mo) (fuel : Nat) (ps : List Pay) (K : Ex → St → Option AV) : Option AV := match ps with
  | .n pf :: .n pi :: .n pm :: .i ui9 :: .n qcy :: .n qco :: .g qcq :: .i qe5 :: .i qfc :: .i qeu :: .i qes :: .i qe1 :: .i u65 :: .n qbe :: .n qbj :: .g qbd :: .n v5 :: .n v1 :: .g v2 :: .i qc1 :: .z qd6 :: .e qea :: .z qas :: .e qam :: .i qa9 :: .z pj :: .e ph :: .s qio :: .i qij :: .i qid :: .i qh7 :: .i qcl :: .i qbs :: .i qch :: [] => gbars_places_l1 qd fuel (fun qls qlf qll qwk qyb qxe q0e qzn qs4 qrn qtr qfl qfk qfn qjp qzm qyz qlr qli qxr quv qlh ql0 qwt ql1 qxa qhs qjo qhp => K (Ex.exit 4) (Xbars_places_1_0 qls qlf qll qwk qyb qxe q0e qzn qs4 qrn qtr qfl qfk qfn qjp qzm qyz qlr qli qxr quv qlh ql0 qwt ql1 qxa qhs qjo qhp)) pf pi pm ui9 qcy qco qcq qe5 qfc qeu qes qe1 qbe qbj qbd v5 v1 v2 qc1 qd6 qea qas qam pj ph qio qij qid qh7 fuel u65 qa9 qcl qbs qch
  | _ => none
noncomputable def Sbars_places_2 (pt pu : Nat) (pw qib qis : Nat) (qf3 : Ge) (u57 u58 : Int) (v4 v0 : Nat) (v3 : Ge) (wq wp : Nat) (wr : Ge) (qc5 : Int) (qe6 : List AV) (qe4 : List (List AV)) (qal : List AV) (qaq : List (List AV)) (qig : Int) (h5z : List AV) (h5e : List (List AV)) : St := { env := [(2,AV.ptr 1 0),(3,AV.own 2 pt 1 pu pw),(8,AV.ptr 4 0),(56,AV.ro 4 qib qis qf3),(57,AV.int .i64 u57),(58,AV.int .i64 u58)],h := [Blk.box [AV.ro 4 v4 v0 v3,AV.ro 9 wq wp wr],Blk.box [AV.lst 3 3,AV.int .i64 qc5],Blk.fx 1 qe6 qe4,Blk.fl 3 qal qaq,Blk.box [AV.lst 5 3,AV.int .i64 qig],Blk.fl 3 h5z h5e],kd := [5,3] }
noncomputable def Xbars_places_2_0 (qt7 qrf : Nat) (qt4 : Ge) (qfi qfp : Nat) (qfo : Ge) (qyt : Int) (qzp : List AV) (q0c : List (List AV)) (qlu : List AV) (qlq : List (List AV)) (qxo : Int) (qle : List AV) (qlo : List (List AV)) : St := { env := [(2,AV.ptr 1 0),(8,AV.ptr 4 0)],h := [Blk.box [AV.ro 4 qt7 qrf qt4,AV.ro 9 qfi qfp qfo],Blk.box [AV.lst 3 3,AV.int .i64 qyt],Blk.fx 1 qzp q0c,Blk.fl 3 qlu qlq,Blk.box [AV.lst 5 3,AV.int .i64 qxo],Blk.fl 3 qle qlo],kd := [5,3] }
noncomputable def gbars_places_l2_step (qd : Mo) (fuel : Nat) (kn : Nat → Nat → Nat → Nat → Nat → Ge → Int → Int → Nat → Nat → Ge → Nat → Nat → Ge → Int → List AV → List (List AV) → List AV → List (List AV) → Int → List AV → List (List AV) → Option AV) (kx0 : Nat → Nat → Ge → Nat → Nat → Ge → Int → List AV → List (List AV) → List AV → List (List AV) → Int → List AV → List (List AV) → Option AV) (pt pu : Nat) (pw qib qis : Nat) (qf3 : Ge) (u57 u58 : Int) (v4 v0 : Nat) (v3 : Ge) (wq wp : Nat) (wr : Ge) (qc5 : Int) (qe6 : List AV) (qe4 : List (List AV)) (qal : List AV) (qaq : List (List AV)) (qig : Int) (h5z : List AV) (h5e : List (List AV)) : Option AV :=
  bif decide (u58 < u57) then ck (decide (0 ≤ u58)) <| ck (decide (u58 < (↑qib : Int))) <| ck (fitKs [LK.s,LK.i .i32,LK.i .i32,LK.i .u8] [qf3 u58.toNat 0,qf3 u58.toNat 1,qf3 u58.toNat 2,qf3 u58.toNat 3]) <| gbars_places_l1 qd fuel
      (fun (qy7 qz9 : Nat) (q0l qsy qut : Nat) (qsv : Ge) (qzi qzb : Int) (qa8 q23 : Nat) (q5m : Ge) (qj6 qkf : Nat) (qkp : Ge) (qg8 : Int) (qtw : List AV) (qre : List (List AV)) (qlp : List AV) (qln : List (List AV)) (qja : Int) (qej : List AV) (qd3 : List (List AV)) (_ : ByteArray) (_ _ : Int) (_ qcn : Int) (qhw qcm : Int) => ck (decide ((qd3.length + 1) * 24 < 70368744177664)) <| ck (decide (qd3.length + 1 < 4611686018427387904)) <| kn qy7 qz9 q0l qsy qut qsv qzi (IntKind.i64.wrap (qzb + 1)) qa8 q23 q5m qj6 qkf qkp qg8 qtw qre qlp qln qja qej (qd3 ++ [[AV.int .i64 qcn,AV.int .i64 qhw,AV.int .i64 qcm]]))
      pt
      pu
      pw
      u58
      qib
      qis
      qf3
      u57
      u58
      (1)
      (2)
      (4)
      v4
      v0
      v3
      wq
      wp
      wr
      qc5
      qe6
      qe4
      qal
      qaq
      h5z
      h5e
      (toS (qf3 u58.toNat 0))
      (toI (qf3 u58.toNat 1))
      (toI (qf3 u58.toNat 2))
      (toI (qf3 u58.toNat 3)) fuel (0) qig ((-1)) ((-1)) ((-1))
  else kx0 v4 v0 v3 wq wp wr qc5 qe6 qe4 qal qaq qig h5z h5e
noncomputable def gbars_places_l2 (qd : Mo) (fuel : Nat) (kx0 : Nat → Nat → Ge → Nat → Nat → Ge → Int → List AV → List (List AV) → List AV → List (List AV) → Int → List AV → List (List AV) → Option AV) : Nat → Nat → Nat → Nat → Nat → Nat → Ge → Int → Int → Nat → Nat → Ge → Nat → Nat → Ge → Int → List AV → List (List AV) → List AV → List (List AV) → Int → List AV → List (List AV) → Option AV
  | 0,_,_,_,_,_,_,_,_,_,_,_,_,_,_,_,_,_,_,_,_,_,_ => none
  | n' + 1,pt,pu,pw,qib,qis,qf3,u57,u58,v4,v0,v3,wq,wp,wr,qc5,qe6,qe4,qal,qaq,qig,h5z,h5e => gbars_places_l2_step qd fuel (gbars_places_l2 qd fuel kx0 n') kx0 pt pu pw qib qis qf3 u57 u58 v4 v0 v3 wq wp wr qc5 qe6 qe4 qal qaq qig h5z h5e
termination_by structural k => k
noncomputable def Tbars_places_2 : TS' := ⟨[(2,TA.ptr 1 0),(3,TA.own 2 1),(8,TA.ptr 4 0),(56,TA.ro 4),(57,TA.i .i64),(58,TA.i .i64)],[TB.box [TA.ro 4,TA.ro 9],TB.box [TA.lst 3 3,TA.i .i64],TB.fx 1,TB.fl 3,TB.box [TA.lst 5 3,TA.i .i64],TB.fl 3],[5,3]⟩
noncomputable def Fbars_places_2 (qd : Mo) (fuel : Nat) (ps : List Pay) (K : Ex → St → Option AV) : Option AV := match ps with
  | .n pt :: .n pu :: .n pw :: .n qib :: .n qis :: .g qf3 :: .i u57 :: .i u58 :: .n v4 :: .n v0 :: .g v3 :: .n wq :: .n wp :: .g wr :: .i qc5 :: .z qe6 :: .e qe4 :: .z qal :: .e qaq :: .i qig :: .z h5z :: .e h5e :: [] => gbars_places_l2 qd fuel (fun qt7 qrf qt4 qfi qfp qfo qyt qzp q0c qlu qlq qxo qle qlo => K (Ex.exit 2) (Xbars_places_2_0 qt7 qrf qt4 qfi qfp qfo qyt qzp q0c qlu qlq qxo qle qlo)) fuel pt pu pw qib qis qf3 u57 u58 v4 v0 v3 wq wp wr qc5 qe6 qe4 qal qaq qig h5z h5e
  | _ => none
noncomputable def Lbars_places (qd : Mo) (fuel : Nat) : Lam AV := [(36028797016867040,lam Tbars_places_0 (Fbars_places_0 qd fuel)),(9903520277389554051773902848,lam Tbars_places_1 (Fbars_places_1 qd fuel)),(1267650600227941171120551509504,lam Tbars_places_2 (Fbars_places_2 qd fuel))]
noncomputable def Gbars_places (qd : Mo) : Gam := [(44,smM [RS.one LK.b,RS.one LK.b] qd)]
theorem gbars_places_l0_eq (qd : Mo) (fuel : Nat) (kn : St → Option AV) (K : Ex → St → Option AV) (vc qat : Nat) (qbk qin qi5 : Nat) (p1 : Ge) (u20 : Int) (zx zy : Nat) (zw : Ge) (wt wu : Nat) (wv : Ge) (ys : Int) (h2z h3z : List AV) (h3e : List (List AV)) (qpe : Int) (q02 : List (List AV)) (u21 : Int) (h2e : List (List AV)) :
    bX Pr (Gbars_places qd) (Lbars_places qd fuel) 6 54 0 fuel (Sbars_places_0 vc qat qbk qin qi5 p1 u20 u21 zx zy zw wt wu wv ys h2z h2e h3z h3e) (fun e s => match e with | .normal => kn (hX Pr 54 0 (Sbars_places_0 vc qat qbk qin qi5 p1 u20 qpe zx zy zw wt wu wv ys h2z q02 h3z h3e) s) | e => K e s) =
    gbars_places_l0_step qd fuel (fun u21 h2e => kn (Sbars_places_0 vc qat qbk qin qi5 p1 u20 u21 zx zy zw wt wu wv ys h2z h2e h3z h3e)) (fun qdf qde qdo vb ve vd wg wh wf p3 qhf qhg qcd qbt => K (Ex.exit 0) (Xbars_places_0_0 qdf qde qdo vb ve vd wg wh wf p3 qhf qhg qcd qbt)) vc qat qbk qin qi5 p1 u20 zx zy zw wt wu wv ys h2z h3z h3e u21 h2e := by kernel_rfl
theorem gbars_places_l0_ok (qd : Mo) (fuel : Nat) (K : Ex → St → Option AV) (vc qat : Nat) (qbk qin qi5 : Nat) (p1 : Ge) (u20 : Int) (zx zy : Nat) (zw : Ge) (wt wu : Nat) (wv : Ge) (ys : Int) (h2z h3z : List AV) (h3e : List (List AV)) (qpe : Int) (q02 : List (List AV)) : ∀ (n' : Nat) (u21 : Int) (h2e : List (List AV)),
    loopK (bX Pr (Gbars_places qd) (Lbars_places qd fuel) 6 54 0 fuel) (hX Pr 54 0 (Sbars_places_0 vc qat qbk qin qi5 p1 u20 qpe zx zy zw wt wu wv ys h2z q02 h3z h3e)) n' (Sbars_places_0 vc qat qbk qin qi5 p1 u20 u21 zx zy zw wt wu wv ys h2z h2e h3z h3e) K = gbars_places_l0 qd fuel (fun qdf qde qdo vb ve vd wg wh wf p3 qhf qhg qcd qbt => K (Ex.exit 0) (Xbars_places_0_0 qdf qde qdo vb ve vd wg wh wf p3 qhf qhg qcd qbt)) vc qat qbk qin qi5 p1 u20 zx zy zw wt wu wv ys h2z h3z h3e n' u21 h2e
  | 0,_,_ => rfl
  | n' + 1,u21,h2e => (gbars_places_l0_eq qd fuel (fun s => loopK (bX Pr (Gbars_places qd) (Lbars_places qd fuel) 6 54 0 fuel) (hX Pr 54 0 (Sbars_places_0 vc qat qbk qin qi5 p1 u20 qpe zx zy zw wt wu wv ys h2z q02 h3z h3e)) n' s K) K vc qat qbk qin qi5 p1 u20 zx zy zw wt wu wv ys h2z h3z h3e qpe q02 u21 h2e).trans
    (congrArg (fun kn => gbars_places_l0_step qd fuel kn _ vc qat qbk qin qi5 p1 u20 zx zy zw wt wu wv ys h2z h3z h3e u21 h2e) (funext fun u21 => funext fun h2e => gbars_places_l0_ok qd fuel K vc qat qbk qin qi5 p1 u20 zx zy zw wt wu wv ys h2z h3z h3e qpe q02 n' u21 h2e))
theorem gbars_places_L0 (qd : Mo) (fuel : Nat) : LX Pr (Gbars_places qd) (Lbars_places qd fuel) 6 54 0 fuel := by
  refine .of Tbars_places_0 (Fbars_places_0 qd fuel) (fun L h => ?_) (fun ps st K r he hr => ?_)
  · have e : (Lbars_places qd fuel).get (writes (lp Pr 54 0).1) = some (lam Tbars_places_0 (Fbars_places_0 qd fuel)) := by kernel_rfl
    exact (Option.some.inj (e.symm.trans h)).symm
  · unfold Fbars_places_0 at hr
    split at hr
    · obtain rfl := (Option.some.inj he).symm
      exact (gbars_places_l0_ok qd fuel K _ _ _ _ _ _ _ _ _ _ _ _ _ _ _ _ _ _ _ fuel _ _).trans hr
    · cases hr
theorem gbars_places_l1_eq (qd : Mo) (fuel : Nat) (kn : St → Option AV) (K : Ex → St → Option AV) (pf pi pm : Nat) (ui9 : Int) (qcy qco : Nat) (qcq : Ge) (qe5 qfc : Int) (qeu qes qe1 : Int) (qbe qbj : Nat) (qbd : Ge) (v5 v1 : Nat) (v2 : Ge) (qc1 : Int) (qd6 : List AV) (qea : List (List AV)) (qas : List AV) (qam : List (List AV)) (pj : List AV) (ph : List (List AV)) (qio : ByteArray) (qij qid : Int) (qh7 q1v : Int) (qk8 qv5 : Int) (qi4 qwg : Int) (u65 qa9 : Int) (qcl qbs qch : Int) :
    bX Pr (Gbars_places qd) (Lbars_places qd fuel) 6 54 2 fuel (Sbars_places_1 pf pi pm ui9 qcy qco qcq qe5 qfc qeu qes qe1 u65 qbe qbj qbd v5 v1 v2 qc1 qd6 qea qas qam qa9 pj ph qio qij qid qh7 qcl qbs qch) (fun e s => match e with | .normal => kn (hX Pr 54 2 (Sbars_places_1 pf pi pm ui9 qcy qco qcq qe5 qfc qeu qes qe1 q1v qbe qbj qbd v5 v1 v2 qc1 qd6 qea qas qam qk8 pj ph qio qij qid qh7 qv5 qi4 qwg) s) | e => K e s) =
    gbars_places_l1_step qd fuel (fun u65 qa9 qcl qbs qch => kn (Sbars_places_1 pf pi pm ui9 qcy qco qcq qe5 qfc qeu qes qe1 u65 qbe qbj qbd v5 v1 v2 qc1 qd6 qea qas qam qa9 pj ph qio qij qid qh7 qcl qbs qch)) (fun qdf qde qdo qsy qut qsv qzi qzb vb ve vd wg wh wf p3 qhf qhg qcd qbt qja qej qd3 qfz xh6_1 qfv xh6_3 qcn qhw qcm => K (Ex.exit 4) (Xbars_places_1_0 qdf qde qdo qsy qut qsv qzi qzb vb ve vd wg wh wf p3 qhf qhg qcd qbt qja qej qd3 qfz xh6_1 qfv xh6_3 qcn qhw qcm)) pf pi pm ui9 qcy qco qcq qe5 qfc qeu qes qe1 qbe qbj qbd v5 v1 v2 qc1 qd6 qea qas qam pj ph qio qij qid qh7 u65 qa9 qcl qbs qch := by kernel_rfl
theorem gbars_places_l1_ok (qd : Mo) (fuel : Nat) (K : Ex → St → Option AV) (pf pi pm : Nat) (ui9 : Int) (qcy qco : Nat) (qcq : Ge) (qe5 qfc : Int) (qeu qes qe1 : Int) (qbe qbj : Nat) (qbd : Ge) (v5 v1 : Nat) (v2 : Ge) (qc1 : Int) (qd6 : List AV) (qea : List (List AV)) (qas : List AV) (qam : List (List AV)) (pj : List AV) (ph : List (List AV)) (qio : ByteArray) (qij qid : Int) (qh7 q1v : Int) (qk8 qv5 : Int) (qi4 qwg : Int) : ∀ (n' : Nat) (u65 qa9 : Int) (qcl qbs qch : Int),
    loopK (bX Pr (Gbars_places qd) (Lbars_places qd fuel) 6 54 2 fuel) (hX Pr 54 2 (Sbars_places_1 pf pi pm ui9 qcy qco qcq qe5 qfc qeu qes qe1 q1v qbe qbj qbd v5 v1 v2 qc1 qd6 qea qas qam qk8 pj ph qio qij qid qh7 qv5 qi4 qwg)) n' (Sbars_places_1 pf pi pm ui9 qcy qco qcq qe5 qfc qeu qes qe1 u65 qbe qbj qbd v5 v1 v2 qc1 qd6 qea qas qam qa9 pj ph qio qij qid qh7 qcl qbs qch) K = gbars_places_l1 qd fuel (fun qdf qde qdo qsy qut qsv qzi qzb vb ve vd wg wh wf p3 qhf qhg qcd qbt qja qej qd3 qfz xh6_1 qfv xh6_3 qcn qhw qcm => K (Ex.exit 4) (Xbars_places_1_0 qdf qde qdo qsy qut qsv qzi qzb vb ve vd wg wh wf p3 qhf qhg qcd qbt qja qej qd3 qfz xh6_1 qfv xh6_3 qcn qhw qcm)) pf pi pm ui9 qcy qco qcq qe5 qfc qeu qes qe1 qbe qbj qbd v5 v1 v2 qc1 qd6 qea qas qam pj ph qio qij qid qh7 n' u65 qa9 qcl qbs qch
  | 0,_,_,_,_,_ => rfl
  | n' + 1,u65,qa9,qcl,qbs,qch => (gbars_places_l1_eq qd fuel (fun s => loopK (bX Pr (Gbars_places qd) (Lbars_places qd fuel) 6 54 2 fuel) (hX Pr 54 2 (Sbars_places_1 pf pi pm ui9 qcy qco qcq qe5 qfc qeu qes qe1 q1v qbe qbj qbd v5 v1 v2 qc1 qd6 qea qas qam qk8 pj ph qio qij qid qh7 qv5 qi4 qwg)) n' s K) K pf pi pm ui9 qcy qco qcq qe5 qfc qeu qes qe1 qbe qbj qbd v5 v1 v2 qc1 qd6 qea qas qam pj ph qio qij qid qh7 q1v qk8 qv5 qi4 qwg u65 qa9 qcl qbs qch).trans
    (congrArg (fun kn => gbars_places_l1_step qd fuel kn _ pf pi pm ui9 qcy qco qcq qe5 qfc qeu qes qe1 qbe qbj qbd v5 v1 v2 qc1 qd6 qea qas qam pj ph qio qij qid qh7 u65 qa9 qcl qbs qch) (funext fun u65 => funext fun qa9 => funext fun qcl => funext fun qbs => funext fun qch => gbars_places_l1_ok qd fuel K pf pi pm ui9 qcy qco qcq qe5 qfc qeu qes qe1 qbe qbj qbd v5 v1 v2 qc1 qd6 qea qas qam pj ph qio qij qid qh7 q1v qk8 qv5 qi4 qwg n' u65 qa9 qcl qbs qch))
theorem gbars_places_L1 (qd : Mo) (fuel : Nat) : LX Pr (Gbars_places qd) (Lbars_places qd fuel) 6 54 2 fuel := by
  refine .of Tbars_places_1 (Fbars_places_1 qd fuel) (fun L h => ?_) (fun ps st K r he hr => ?_)
  · have e : (Lbars_places qd fuel).get (writes (lp Pr 54 2).1) = some (lam Tbars_places_1 (Fbars_places_1 qd fuel)) := by kernel_rfl
    exact (Option.some.inj (e.symm.trans h)).symm
  · unfold Fbars_places_1 at hr
    split at hr
    · obtain rfl := (Option.some.inj he).symm
      exact (gbars_places_l1_ok qd fuel K _ _ _ _ _ _ _ _ _ _ _ _ _ _ _ _ _ _ _ _ _ _ _ _ _ _ _ _ _ _ _ _ _ _ fuel _ _ _ _ _).trans hr
    · cases hr
theorem gbars_places_l2_eq (qd : Mo) (fuel : Nat) (kn : St → Option AV) (K : Ex → St → Option AV) (qgy qgp : Nat) (qg3 qv3 qv7 : Nat) (qv2 : Ge) (q10 q1y : Int) (qjc qjb : Nat) (qjh : Ge) (qi8 qi9 : Nat) (qiv : Ge) (qk5 : Int) (qp7 : List AV) (qnz : List (List AV)) (qnu : List AV) (qqo : List (List AV)) (qv1 : Int) (qmo : List AV) (qqy : List (List AV)) (pt pu : Nat) (pw qib qis : Nat) (qf3 : Ge) (u57 u58 : Int) (v4 v0 : Nat) (v3 : Ge) (wq wp : Nat) (wr : Ge) (qc5 : Int) (qe6 : List AV) (qe4 : List (List AV)) (qal : List AV) (qaq : List (List AV)) (qig : Int) (h5z : List AV) (h5e : List (List AV)) :
    bX Pr (Gbars_places qd) (Lbars_places qd fuel) 6 54 1 fuel (Sbars_places_2 pt pu pw qib qis qf3 u57 u58 v4 v0 v3 wq wp wr qc5 qe6 qe4 qal qaq qig h5z h5e) (fun e s => match e with | .normal => kn (hX Pr 54 1 (Sbars_places_2 qgy qgp qg3 qv3 qv7 qv2 q10 q1y qjc qjb qjh qi8 qi9 qiv qk5 qp7 qnz qnu qqo qv1 qmo qqy) s) | e => K e s) =
    gbars_places_l2_step qd fuel (fun pt pu pw qib qis qf3 u57 u58 v4 v0 v3 wq wp wr qc5 qe6 qe4 qal qaq qig h5z h5e => kn (Sbars_places_2 pt pu pw qib qis qf3 u57 u58 v4 v0 v3 wq wp wr qc5 qe6 qe4 qal qaq qig h5z h5e)) (fun vb ve vd wg wh wf p3 qhf qhg qcd qbt qja qej qd3 => K (Ex.exit 2) (Xbars_places_2_0 vb ve vd wg wh wf p3 qhf qhg qcd qbt qja qej qd3)) pt pu pw qib qis qf3 u57 u58 v4 v0 v3 wq wp wr qc5 qe6 qe4 qal qaq qig h5z h5e := by kernel_rfl
theorem gbars_places_l2_ok (qd : Mo) (fuel : Nat) (K : Ex → St → Option AV) (qgy qgp : Nat) (qg3 qv3 qv7 : Nat) (qv2 : Ge) (q10 q1y : Int) (qjc qjb : Nat) (qjh : Ge) (qi8 qi9 : Nat) (qiv : Ge) (qk5 : Int) (qp7 : List AV) (qnz : List (List AV)) (qnu : List AV) (qqo : List (List AV)) (qv1 : Int) (qmo : List AV) (qqy : List (List AV)) : ∀ (n' pt : Nat) (pu pw : Nat) (qib qis : Nat) (qf3 : Ge) (u57 u58 : Int) (v4 v0 : Nat) (v3 : Ge) (wq wp : Nat) (wr : Ge) (qc5 : Int) (qe6 : List AV) (qe4 : List (List AV)) (qal : List AV) (qaq : List (List AV)) (qig : Int) (h5z : List AV) (h5e : List (List AV)),
    loopK (bX Pr (Gbars_places qd) (Lbars_places qd fuel) 6 54 1 fuel) (hX Pr 54 1 (Sbars_places_2 qgy qgp qg3 qv3 qv7 qv2 q10 q1y qjc qjb qjh qi8 qi9 qiv qk5 qp7 qnz qnu qqo qv1 qmo qqy)) n' (Sbars_places_2 pt pu pw qib qis qf3 u57 u58 v4 v0 v3 wq wp wr qc5 qe6 qe4 qal qaq qig h5z h5e) K = gbars_places_l2 qd fuel (fun vb ve vd wg wh wf p3 qhf qhg qcd qbt qja qej qd3 => K (Ex.exit 2) (Xbars_places_2_0 vb ve vd wg wh wf p3 qhf qhg qcd qbt qja qej qd3)) n' pt pu pw qib qis qf3 u57 u58 v4 v0 v3 wq wp wr qc5 qe6 qe4 qal qaq qig h5z h5e
  | 0,_,_,_,_,_,_,_,_,_,_,_,_,_,_,_,_,_,_,_,_,_,_ => rfl
  | n' + 1,pt,pu,pw,qib,qis,qf3,u57,u58,v4,v0,v3,wq,wp,wr,qc5,qe6,qe4,qal,qaq,qig,h5z,h5e => (gbars_places_l2_eq qd fuel (fun s => loopK (bX Pr (Gbars_places qd) (Lbars_places qd fuel) 6 54 1 fuel) (hX Pr 54 1 (Sbars_places_2 qgy qgp qg3 qv3 qv7 qv2 q10 q1y qjc qjb qjh qi8 qi9 qiv qk5 qp7 qnz qnu qqo qv1 qmo qqy)) n' s K) K qgy qgp qg3 qv3 qv7 qv2 q10 q1y qjc qjb qjh qi8 qi9 qiv qk5 qp7 qnz qnu qqo qv1 qmo qqy pt pu pw qib qis qf3 u57 u58 v4 v0 v3 wq wp wr qc5 qe6 qe4 qal qaq qig h5z h5e).trans
    (congrArg (fun kn => gbars_places_l2_step qd fuel kn _ pt pu pw qib qis qf3 u57 u58 v4 v0 v3 wq wp wr qc5 qe6 qe4 qal qaq qig h5z h5e) (funext fun pt => funext fun pu => funext fun pw => funext fun qib => funext fun qis => funext fun qf3 => funext fun u57 => funext fun u58 => funext fun v4 => funext fun v0 => funext fun v3 => funext fun wq => funext fun wp => funext fun wr => funext fun qc5 => funext fun qe6 => funext fun qe4 => funext fun qal => funext fun qaq => funext fun qig => funext fun h5z => funext fun h5e => gbars_places_l2_ok qd fuel K qgy qgp qg3 qv3 qv7 qv2 q10 q1y qjc qjb qjh qi8 qi9 qiv qk5 qp7 qnz qnu qqo qv1 qmo qqy n' pt pu pw qib qis qf3 u57 u58 v4 v0 v3 wq wp wr qc5 qe6 qe4 qal qaq qig h5z h5e))
termination_by structural k => k
theorem gbars_places_L2 (qd : Mo) (fuel : Nat) : LX Pr (Gbars_places qd) (Lbars_places qd fuel) 6 54 1 fuel := by
  refine .of Tbars_places_2 (Fbars_places_2 qd fuel) (fun L h => ?_) (fun ps st K r he hr => ?_)
  · have e : (Lbars_places qd fuel).get (writes (lp Pr 54 1).1) = some (lam Tbars_places_2 (Fbars_places_2 qd fuel)) := by kernel_rfl
    exact (Option.some.inj (e.symm.trans h)).symm
  · unfold Fbars_places_2 at hr
    split at hr
    · obtain rfl := (Option.some.inj he).symm
      exact (gbars_places_l2_ok qd fuel K _ _ _ _ _ _ _ _ _ _ _ _ _ _ _ _ _ _ _ _ _ _ fuel _ _ _ _ _ _ _ _ _ _ _ _ _ _ _ _ _ _ _ _ _ _).trans hr
    · cases hr
noncomputable def gbars_places (qd : Mo) (fuel vw y5 : Nat) (zh : Ge) (v9 yn : Nat) (z1 : Ge) : Option AV :=
  ck (decide (0 ≤ (↑vw : Int))) <| ck (decide ((↑vw : Int) ≤ (↑vw : Int))) <| ck ((1 * (↑vw : Int).toNat).ble 281474976710656) <| ck (((↑vw : Int).toNat + 1).ble 4611686018427387904) <| gbars_places_l0 qd fuel
    (fun (qdf qde : Nat) (qdo vb ve : Nat) (vd : Ge) (wg wh : Nat) (wf : Ge) (p3 : Int) (qhf : List AV) (qhg : List (List AV)) (qcd : List AV) (qbt : List (List AV)) => gbars_places_l2 qd fuel
        (fun (_ _ : Nat) (_ : Ge) (_ _ : Nat) (_ : Ge) (_ : Int) (_ : List AV) (_ : List (List AV)) (_ : List AV) (_ : List (List AV)) (q9p : Int) (qyy : List AV) (qtl : List (List AV)) => some (AV.agg [AV.ro 3 qtl.length qtl.length fun (i j : Nat) => (qtl.getD i qyy).getD j AV.dead,AV.int .i64 q9p])) fuel qdf qde qdo vb ve vd ((↑vb : Int)) (0) vb ve vd wg wh wf p3 qhf qhg qcd qbt (0) ([AV.int .i64 0,AV.int .i64 0,AV.int .i64 0]) ([]))
    (0)
    ((↑vw : Int).toNat)
    ((↑vw : Int).toNat)
    v9
    yn
    z1
    ((↑v9 : Int))
    vw
    y5
    zh
    v9
    yn
    z1
    (0)
    ([AV.bool false])
    ([AV.int .i64 0,AV.int .i64 0,AV.int .i64 0])
    ([]) fuel (0) (List.replicate (↑vw : Int).toNat [AV.bool false])
noncomputable def mbars_places (qd : Mo) (fuel : Nat) (xs : List AV) : Option AV := match xs with
  | [AV.agg [AV.ro 4 vw y5 zh,AV.ro 9 v9 yn z1]] => gbars_places qd fuel vw y5 zh v9 yn z1
  | _ => none
abbrev Rbars_places : List RS := [RS.agg [LK.l (nat_lit 3),LK.i .i64]]
theorem gbars_places_sm (qd : Mo) (fuel : Nat) (hΓ : GamOk Pr (Gbars_places qd)) (hP : NamesOk Pr) : SmOk Pr 54 (smM Rbars_places (mbars_places qd fuel)) := smL (L := (Lbars_places qd fuel)) (n := 3) hΓ hP (by kernel_rfl) (fun i hi => match i,hi with
  | 0,_ => gbars_places_L0 qd fuel
  | 2,_ => gbars_places_L1 qd fuel
  | 1,_ => gbars_places_L2 qd fuel
  | i + 3,hi => absurd hi (by omega)) fun xs v h => by
  unfold mbars_places at h
  split at h
  · exact Eq.trans (by kernel_rfl) h
  · cases h
noncomputable def Gbars_Unknowns (qr ya : Mo) : Gam := [(19,smM [RS.one (LK.i .i64),RS.one (LK.i .i64)] qr),(54,smM [RS.agg [LK.l (nat_lit 3),LK.i .i64]] ya)]
noncomputable def gbars_Unknowns (qr ya : Mo) (fuel vw y5 : Nat) (zh : Ge) (v9 yn : Nat) (z1 : Ge) : Option AV :=
  let r0 : Option AV := qr [AV.agg [AV.ro 4 vw y5 zh,AV.ro 9 v9 yn z1]]; ck (okM [RS.one (LK.i .i64),RS.one (LK.i .i64)] r0) <| bif toI ((toT (getV r0)).headD .dead) != 0 then some (AV.tup [AV.agg [AV.ro 3 0 0 fun (x j : Nat) => [AV.int .i64 0,AV.int .i64 0,AV.int .i64 0].getD j AV.dead,AV.int .i64 0],AV.int .i64 (toI ((toT (getV r0)).headD .dead))])
  else let r1 : Option AV := ya [AV.agg [AV.ro 4 vw y5 zh,AV.ro 9 v9 yn z1]]; ck (okM [RS.agg [LK.l 3,LK.i .i64]] r1) <| some (AV.tup [AV.agg [AV.ro 3 (toN ((toC (getV r1)).headD .dead)) (toR ((toC (getV r1)).headD .dead)) (toG ((toC (getV r1)).headD .dead)),AV.int .i64 (toI ((toC (getV r1)).tail.headD .dead))],AV.int .i64 0])
noncomputable def mbars_Unknowns (qr ya : Mo) (fuel : Nat) (xs : List AV) : Option AV := match xs with
  | [AV.agg [AV.ro 4 vw y5 zh,AV.ro 9 v9 yn z1]] => gbars_Unknowns qr ya fuel vw y5 zh v9 yn z1
  | _ => none
abbrev Rbars_Unknowns : List RS := [RS.agg [LK.l (nat_lit 3),LK.i .i64],RS.one (LK.i .i64)]
theorem gbars_Unknowns_sm (qr ya : Mo) (fuel : Nat) (hΓ : GamOk Pr (Gbars_Unknowns qr ya)) (hP : NamesOk Pr) : SmOk Pr 30 (smM Rbars_Unknowns (mbars_Unknowns qr ya fuel)) := sm0 (fuel := fuel) (d := 7) hΓ hP fun xs v h => by
  unfold mbars_Unknowns at h
  split at h
  · exact Eq.trans (by kernel_rfl) h
  · cases h
noncomputable def Glaw19_awake (yj v8 : Mo) (qg z8 : Mo) : Gam := [(29,smM [RS.agg [LK.s,LK.i .u8,LK.i .i64,LK.i .i64,LK.b,LK.b,LK.f .f64,LK.f .f64,LK.f .f64]] yj),(28,smM [RS.agg [LK.l (nat_lit 4),LK.l (nat_lit 9)]] v8),(6,smM [RS.one (LK.l (nat_lit 11)),RS.one (LK.i .i64)] qg),(30,smM [RS.agg [LK.l (nat_lit 3),LK.i .i64],RS.one (LK.i .i64)] z8)]
abbrev Rlaw19_awake : List RS := [RS.one LK.b]
end Go.Proofs.Tryz
end
section
namespace Go.Proofs.Tryz
open Go Go.Am
set_option linter.unusedVariables false
set_option maxRecDepth 1000000
noncomputable def Slaw19_BarsTrue_0 (pg qcx : Nat) (ww : Ge) (w1 qbn : Int) (qie qhc : Int) (qhh ym : Int) (wq wp : Nat) (wr : Ge) (vg vk : Nat) (vf : Ge) (vm vh : Nat) (vj : Ge) (vn vl : Nat) (vi : Ge) (qaz qay : Nat) (qa0 : Ge) (qax qav : Nat) (qaw : Ge) (qce : ByteArray) (qb4 qcc qb5 : Int) (qca qb0 : Bool) (qb2 qcf qb1 : Option Nat) : St := { env := [(3,AV.ptr 1 0),(4,AV.ro 11 pg qcx ww),(6,AV.int .i64 w1),(7,AV.int .i64 qbn),(8,AV.ptr 2 0),(11,AV.int .i64 qie),(12,AV.int .i64 qhc),(13,AV.int .i64 qhh)],h := [Blk.box [AV.int .i64 ym,AV.ro 1 wq wp wr,AV.ro 1 vg vk vf,AV.ro 1 vm vh vj,AV.ro 1 vn vl vi],Blk.box [AV.ro 4 qaz qay qa0,AV.ro 9 qax qav qaw],Blk.box [AV.str qce,AV.int .u8 qb4,AV.int .i64 qcc,AV.int .i64 qb5,AV.bool qca,AV.bool qb0,AV.flt .f64 qb2,AV.flt .f64 qcf,AV.flt .f64 qb1]],kd := [] }
noncomputable def Xlaw19_BarsTrue_0_0 (q0p : Bool) (qsu : Int) (qqw qnm : Nat) (qm4 : Ge) (qnl qpz : Nat) (qq2 : Ge) (qn9 qq1 : Nat) (qq6 : Ge) (qmi qot : Nat) (qp2 : Ge) (qne qnx : Nat) (qm1 : Ge) (qoz qp5 : Nat) (qmp : Ge) (qud : ByteArray) (quj qrc qvn : Int) (qsd qu4 : Bool) (qsm qsn qte : Option Nat) : St := { env := [(2,AV.bool q0p)],h := [Blk.box [AV.int .i64 qsu,AV.ro 1 qqw qnm qm4,AV.ro 1 qnl qpz qq2,AV.ro 1 qn9 qq1 qq6,AV.ro 1 qmi qot qp2],Blk.box [AV.ro 4 qne qnx qm1,AV.ro 9 qoz qp5 qmp],Blk.box [AV.str qud,AV.int .u8 quj,AV.int .i64 qrc,AV.int .i64 qvn,AV.bool qsd,AV.bool qu4,AV.flt .f64 qsm,AV.flt .f64 qsn,AV.flt .f64 qte]],kd := [] }
noncomputable def Xlaw19_BarsTrue_0_1 (qzr : Bool) (qux : Int) (qql qop : Nat) (qmq : Ge) (qq3 qo7 : Nat) (qm9 : Ge) (qpl qng : Nat) (qmm : Ge) (qob qpq : Nat) (qn6 : Ge) (qo9 qor : Nat) (qog : Ge) (qns qmk : Nat) (qox : Ge) (qtm : ByteArray) (quy qsg qtx : Int) (qup qs6 : Bool) (qrl qvz quk : Option Nat) (qxk qxg : Int) (qx6 qxh : Int) (qw9 qwn : Int) (qwo qxu : Int) (qxj qxn qts : Option Nat) : St := { env := [(2,AV.bool qzr)],h := [Blk.box [AV.int .i64 qux,AV.ro 1 qql qop qmq,AV.ro 1 qq3 qo7 qm9,AV.ro 1 qpl qng qmm,AV.ro 1 qob qpq qn6],Blk.box [AV.ro 4 qo9 qor qog,AV.ro 9 qns qmk qox],Blk.box [AV.str qtm,AV.int .u8 quy,AV.int .i64 qsg,AV.int .i64 qtx,AV.bool qup,AV.bool qs6,AV.flt .f64 qrl,AV.flt .f64 qvz,AV.flt .f64 quk],Blk.box [AV.int .i64 qxk,AV.int .u8 qxg,AV.int .i64 qx6,AV.int .i64 qxh,AV.int .i64 qw9,AV.int .i64 qwn,AV.int .i64 qwo,AV.int .i64 qxu,AV.flt .f64 qxj,AV.flt .f64 qxn,AV.flt .f64 qts]],kd := [] }
noncomputable def Xlaw19_BarsTrue_0_2 (qz5 : Bool) (quh : Int) (qoy qqd : Nat) (qmg : Ge) (qqz qmx : Nat) (qqs : Ge) (qmu qph : Nat) (qnf : Ge) (qna qp6 : Nat) (qod : Ge) (qo8 qpk : Nat) (qni : Ge) (qoi qoo : Nat) (qp1 : Ge) (qtk : ByteArray) (qvg qur qu8 : Int) (qtq qvj : Bool) (qua qrw qvc : Option Nat) (qw2 qx5 : Int) (qwp qwz : Int) (qyg qxt : Int) (qya qyr : Int) (qw8 qxy qvi : Option Nat) (qyj : Bool) (qtc qtu : Nat) (qr1 : Ge) (qww : Int) (qyq : Bool) (qr7 qt5 : Nat) (que : Ge) (qx0 : Int) (qw7 : Bool) (qs1 qrk : Nat) (qu0 : Ge) (qxf : Int) (qye : Bool) (qrb qvf : Nat) (quu : Ge) (qxx : Int) : St := { env := [(2,AV.bool qz5)],h := [Blk.box [AV.int .i64 quh,AV.ro 1 qoy qqd qmg,AV.ro 1 qqz qmx qqs,AV.ro 1 qmu qph qnf,AV.ro 1 qna qp6 qod],Blk.box [AV.ro 4 qo8 qpk qni,AV.ro 9 qoi qoo qp1],Blk.box [AV.str qtk,AV.int .u8 qvg,AV.int .i64 qur,AV.int .i64 qu8,AV.bool qtq,AV.bool qvj,AV.flt .f64 qua,AV.flt .f64 qrw,AV.flt .f64 qvc],Blk.box [AV.int .i64 qw2,AV.int .u8 qx5,AV.int .i64 qwp,AV.int .i64 qwz,AV.int .i64 qyg,AV.int .i64 qxt,AV.int .i64 qya,AV.int .i64 qyr,AV.flt .f64 qw8,AV.flt .f64 qxy,AV.flt .f64 qvi],Blk.box [AV.bool qyj,AV.ro 1 qtc qtu qr1,AV.int .i64 qww],Blk.box [AV.bool qyq,AV.ro 1 qr7 qt5 que,AV.int .i64 qx0],Blk.box [AV.bool qw7,AV.ro 1 qs1 qrk qu0,AV.int .i64 qxf],Blk.box [AV.bool qye,AV.ro 1 qrb qvf quu,AV.int .i64 qxx]],kd := [] }
noncomputable def Xlaw19_BarsTrue_0_3 (qx1 qxv : Nat) (qx8 : Ge) (qzk qz6 qrg : Int) (qnr qqe : Nat) (qqu : Ge) (qm3 qo6 : Nat) (qpc : Ge) (qqx qml : Nat) (qos : Ge) (qmt qpr : Nat) (qq0 : Ge) (qp8 qmn : Nat) (qnb : Ge) (qno qpp : Nat) (qny : Ge) (qtg : ByteArray) (qu9 qum qu2 : Int) (qtn qsk : Bool) (qse qtp qrt : Option Nat) : St := { env := [(3,AV.ptr 1 0),(4,AV.ro 11 qx1 qxv qx8),(6,AV.int .i64 qzk),(7,AV.int .i64 qz6)],h := [Blk.box [AV.int .i64 qrg,AV.ro 1 qnr qqe qqu,AV.ro 1 qm3 qo6 qpc,AV.ro 1 qqx qml qos,AV.ro 1 qmt qpr qq0],Blk.box [AV.ro 4 qp8 qmn qnb,AV.ro 9 qno qpp qny],Blk.box [AV.str qtg,AV.int .u8 qu9,AV.int .i64 qum,AV.int .i64 qu2,AV.bool qtn,AV.bool qsk,AV.flt .f64 qse,AV.flt .f64 qtp,AV.flt .f64 qrt]],kd := [] }
noncomputable def glaw19_BarsTrue_l0_step (qe qg : Mo) (qv qi : Mo) (qh qk qt : Mo) (fuel : Nat) (kn : Int → Int → Option AV) (kx0 : Bool → Int → Nat → Nat → Ge → Nat → Nat → Ge → Nat → Nat → Ge → Nat → Nat → Ge → Nat → Nat → Ge → Nat → Nat → Ge → ByteArray → Int → Int → Int → Bool → Bool → Option Nat → Option Nat → Option Nat → Option AV) (kx1 : Bool → Int → Nat → Nat → Ge → Nat → Nat → Ge → Nat → Nat → Ge → Nat → Nat → Ge → Nat → Nat → Ge → Nat → Nat → Ge → ByteArray → Int → Int → Int → Bool → Bool → Option Nat → Option Nat → Option Nat → Int → Int → Int → Int → Int → Int → Int → Int → Option Nat → Option Nat → Option Nat → Option AV) (kx2 : Bool → Int → Nat → Nat → Ge → Nat → Nat → Ge → Nat → Nat → Ge → Nat → Nat → Ge → Nat → Nat → Ge → Nat → Nat → Ge → ByteArray → Int → Int → Int → Bool → Bool → Option Nat → Option Nat → Option Nat → Int → Int → Int → Int → Int → Int → Int → Int → Option Nat → Option Nat → Option Nat → Bool → Nat → Nat → Ge → Int → Bool → Nat → Nat → Ge → Int → Bool → Nat → Nat → Ge → Int → Bool → Nat → Nat → Ge → Int → Option AV) (kx3 : Nat → Nat → Ge → Int → Int → Int → Nat → Nat → Ge → Nat → Nat → Ge → Nat → Nat → Ge → Nat → Nat → Ge → Nat → Nat → Ge → Nat → Nat → Ge → ByteArray → Int → Int → Int → Bool → Bool → Option Nat → Option Nat → Option Nat → Option AV) (pg qcx : Nat) (ww : Ge) (qbn qie : Int) (qhc ym : Int) (wq wp : Nat) (wr : Ge) (vg vk : Nat) (vf : Ge) (vm vh : Nat) (vj : Ge) (vn vl : Nat) (vi : Ge) (qaz qay : Nat) (qa0 : Ge) (qax qav : Nat) (qaw : Ge) (qce : ByteArray) (qb4 qcc qb5 : Int) (qca qb0 : Bool) (qb2 qcf qb1 : Option Nat) (w1 qhh : Int) : Option AV :=
  bif decide (qhh < qhc) then ck (bif !decide (w1 ≥ (↑pg : Int)) then decide (0 ≤ w1) else true) <| ck (bif !decide (w1 ≥ (↑pg : Int)) then decide (w1 < (↑pg : Int)) else true) <| ck (bif !decide (w1 ≥ (↑pg : Int)) then true else true) <| ck (bif !decide (w1 ≥ (↑pg : Int)) then fitK (LK.i .i64) (ww w1.toNat 0) else true) <| ck (bif !bif decide (w1 ≥ (↑pg : Int)) then true else toI (ww w1.toNat 0) != qbn then decide (0 ≤ w1) else true) <| ck (bif !bif decide (w1 ≥ (↑pg : Int)) then true else toI (ww w1.toNat 0) != qbn then decide (w1 < (↑pg : Int)) else true) <| ck (bif !bif decide (w1 ≥ (↑pg : Int)) then true else toI (ww w1.toNat 0) != qbn then true else true) <| ck (bif !bif decide (w1 ≥ (↑pg : Int)) then true else toI (ww w1.toNat 0) != qbn then fitK (LK.i .u8) (ww w1.toNat 1) else true) <| ck (bif !bif decide (w1 ≥ (↑pg : Int)) then true else toI (ww w1.toNat 0) != qbn then decide (0 ≤ qhc) else true) <| ck (bif !bif decide (w1 ≥ (↑pg : Int)) then true else toI (ww w1.toNat 0) != qbn then decide (qhc < (↑4 : Int)) else true) <| ck (bif !bif decide (w1 ≥ (↑pg : Int)) then true else toI (ww w1.toNat 0) != qbn then true else true) <| ck (bif !bif decide (w1 ≥ (↑pg : Int)) then true else toI (ww w1.toNat 0) != qbn then fitK (LK.i .u8) (([[AV.int .u8 0],[AV.int .u8 0],[AV.int .u8 4],[AV.int .u8 2]].getD qhc.toNat []).getD 0 AV.dead) else true) <| ck (bif !bif decide (w1 ≥ (↑pg : Int)) then true else toI (ww w1.toNat 0) != qbn then decide (0 ≤ qhh) else true) <| ck (bif !bif decide (w1 ≥ (↑pg : Int)) then true else toI (ww w1.toNat 0) != qbn then decide (qhh < (↑3 : Int)) else true) <| ck (bif !bif decide (w1 ≥ (↑pg : Int)) then true else toI (ww w1.toNat 0) != qbn then true else true) <| ck (bif !bif decide (w1 ≥ (↑pg : Int)) then true else toI (ww w1.toNat 0) != qbn then fitK (LK.i .u8) (([[AV.int .u8 1],[AV.int .u8 (toI (([[AV.int .u8 0],[AV.int .u8 0],[AV.int .u8 4],[AV.int .u8 2]].getD qhc.toNat []).getD 0 AV.dead))],[AV.int .u8 3]].getD qhh.toNat []).getD 0 AV.dead) else true) <| bif bif bif decide (w1 ≥ (↑pg : Int)) then true else toI (ww w1.toNat 0) != qbn then true else toI (ww w1.toNat 1) != toI (([[AV.int .u8 1],[AV.int .u8 (toI (([[AV.int .u8 0],[AV.int .u8 0],[AV.int .u8 4],[AV.int .u8 2]].getD qhc.toNat []).getD 0 AV.dead))],[AV.int .u8 3]].getD qhh.toNat []).getD 0 AV.dead) then kx0 false ym wq wp wr vg vk vf vm vh vj vn vl vi qaz qay qa0 qax qav qaw qce qb4 qcc qb5 qca qb0 qb2 qcf qb1
    else ck (decide (0 ≤ w1)) <| ck (decide (w1 < (↑pg : Int))) <| ck (fitKs [LK.i .i64,LK.i .u8,LK.i .i64,LK.i .i64,LK.i .i64,LK.i .i64,LK.i .i64,LK.i .i64,LK.f .f64,LK.f .f64,LK.f .f64] [ww w1.toNat 0,ww w1.toNat 1,ww w1.toNat 2,ww w1.toNat 3,ww w1.toNat 4,ww w1.toNat 5,ww w1.toNat 6,ww w1.toNat 7,ww w1.toNat 8,ww w1.toNat 9,ww w1.toNat 10]) <| ck (bif ford .f64 (toF (ww w1.toNat 8)) (some 0) == some Ordering.gt then true else true) <| ck (bif ford .f64 (toF (ww w1.toNat 8)) (some 0) == some Ordering.gt then true else true) <| ck (bif bif ford .f64 (toF (ww w1.toNat 8)) (some 0) == some Ordering.gt then ford .f64 (toF (ww w1.toNat 8)) (toF (ww w1.toNat 10)) == some Ordering.lt || ford .f64 (toF (ww w1.toNat 8)) (toF (ww w1.toNat 10)) == some Ordering.eq else false then true else true) <| ck (bif bif ford .f64 (toF (ww w1.toNat 8)) (some 0) == some Ordering.gt then ford .f64 (toF (ww w1.toNat 8)) (toF (ww w1.toNat 10)) == some Ordering.lt || ford .f64 (toF (ww w1.toNat 8)) (toF (ww w1.toNat 10)) == some Ordering.eq else false then true else true) <| ck (bif bif bif ford .f64 (toF (ww w1.toNat 8)) (some 0) == some Ordering.gt then ford .f64 (toF (ww w1.toNat 8)) (toF (ww w1.toNat 10)) == some Ordering.lt || ford .f64 (toF (ww w1.toNat 8)) (toF (ww w1.toNat 10)) == some Ordering.eq else false then ford .f64 (toF (ww w1.toNat 10)) (toF (ww w1.toNat 9)) == some Ordering.lt || ford .f64 (toF (ww w1.toNat 10)) (toF (ww w1.toNat 9)) == some Ordering.eq else false then true else true) <| bif !bif bif bif ford .f64 (toF (ww w1.toNat 8)) (some 0) == some Ordering.gt then ford .f64 (toF (ww w1.toNat 8)) (toF (ww w1.toNat 10)) == some Ordering.lt || ford .f64 (toF (ww w1.toNat 8)) (toF (ww w1.toNat 10)) == some Ordering.eq else false then ford .f64 (toF (ww w1.toNat 10)) (toF (ww w1.toNat 9)) == some Ordering.lt || ford .f64 (toF (ww w1.toNat 10)) (toF (ww w1.toNat 9)) == some Ordering.eq else false then ford .f64 (toF (ww w1.toNat 9)) (some 9110782046170513408) == some Ordering.lt else false then kx1 false ym wq wp wr vg vk vf vm vh vj vn vl vi qaz qay qa0 qax qav qaw qce qb4 qcc qb5 qca qb0 qb2 qcf qb1 (toI (ww w1.toNat 0)) (toI (ww w1.toNat 1)) (toI (ww w1.toNat 2)) (toI (ww w1.toNat 3)) (toI (ww w1.toNat 4)) (toI (ww w1.toNat 5)) (toI (ww w1.toNat 6)) (toI (ww w1.toNat 7)) (toF (ww w1.toNat 8)) (toF (ww w1.toNat 9)) (toF (ww w1.toNat 10))
    else let r2 : Option AV := qv [AV.agg [AV.str qce,AV.int .u8 qb4,AV.int .i64 qcc,AV.int .i64 qb5,AV.bool qca,AV.bool qb0,AV.flt .f64 qb2,AV.flt .f64 qcf,AV.flt .f64 qb1],AV.int .i64 qie,AV.int .u8 (toI (ww w1.toNat 1))]; ck (okM [RS.agg [LK.b,LK.l 1,LK.i .i64],RS.agg [LK.b,LK.l 1,LK.i .i64]] r2) <| let r3 : Option AV := qi [AV.flt .f64 (toF (ww w1.toNat 8))]; ck (okM [RS.agg [LK.b,LK.l 1,LK.i .i64]] r3) <| let r4 : Option AV := qi [AV.flt .f64 (toF (ww w1.toNat 8))]; ck (okM [RS.agg [LK.b,LK.l 1,LK.i .i64]] r4) <| let r5 : Option AV := qh [AV.ro 3 3 3 fun (i j : Nat) => ([[AV.bool (toB ((toC (getV r3)).headD .dead)),AV.ro 1 (toN ((toC (getV r3)).tail.headD .dead)) (toR ((toC (getV r3)).tail.headD .dead)) (toG ((toC (getV r3)).tail.headD .dead)),AV.int .i64 (toI ((toC (getV r3)).tail.tail.headD .dead))],[AV.bool (toB ((toC (getV r4)).headD .dead)),AV.ro 1 (toN ((toC (getV r4)).tail.headD .dead)) (toR ((toC (getV r4)).tail.headD .dead)) (toG ((toC (getV r4)).tail.headD .dead)),AV.int .i64 (toI ((toC (getV r4)).tail.tail.headD .dead))],[AV.bool (toB ((toC ((toT (getV r2)).tail.headD .dead)).headD .dead)),AV.ro 1 (toN ((toC ((toT (getV r2)).tail.headD .dead)).tail.headD .dead)) (toR ((toC ((toT (getV r2)).tail.headD .dead)).tail.headD .dead)) (toG ((toC ((toT (getV r2)).tail.headD .dead)).tail.headD .dead)),AV.int .i64 (toI ((toC ((toT (getV r2)).tail.headD .dead)).tail.tail.headD .dead))]].getD i []).getD j AV.dead]; ck (okM [RS.agg [LK.b,LK.l 1,LK.i .i64]] r5) <| let r6 : Option AV := qi [AV.flt .f64 (toF (ww w1.toNat 9))]; ck (okM [RS.agg [LK.b,LK.l 1,LK.i .i64]] r6) <| let r7 : Option AV := qi [AV.flt .f64 (toF (ww w1.toNat 9))]; ck (okM [RS.agg [LK.b,LK.l 1,LK.i .i64]] r7) <| let r8 : Option AV := qh [AV.ro 3 3 3 fun (i j : Nat) => ([[AV.bool (toB ((toC (getV r6)).headD .dead)),AV.ro 1 (toN ((toC (getV r6)).tail.headD .dead)) (toR ((toC (getV r6)).tail.headD .dead)) (toG ((toC (getV r6)).tail.headD .dead)),AV.int .i64 (toI ((toC (getV r6)).tail.tail.headD .dead))],[AV.bool (toB ((toC (getV r7)).headD .dead)),AV.ro 1 (toN ((toC (getV r7)).tail.headD .dead)) (toR ((toC (getV r7)).tail.headD .dead)) (toG ((toC (getV r7)).tail.headD .dead)),AV.int .i64 (toI ((toC (getV r7)).tail.tail.headD .dead))],[AV.bool (toB ((toC ((toT (getV r2)).tail.headD .dead)).headD .dead)),AV.ro 1 (toN ((toC ((toT (getV r2)).tail.headD .dead)).tail.headD .dead)) (toR ((toC ((toT (getV r2)).tail.headD .dead)).tail.headD .dead)) (toG ((toC ((toT (getV r2)).tail.headD .dead)).tail.headD .dead)),AV.int .i64 (toI ((toC ((toT (getV r2)).tail.headD .dead)).tail.tail.headD .dead))]].getD i []).getD j AV.dead]; ck (okM [RS.agg [LK.b,LK.l 1,LK.i .i64]] r8) <| ck (okM [RS.one (LK.i .i64)] (qk [AV.agg [AV.bool (toB ((toC (getV r5)).headD .dead)),AV.ro 1 (toN ((toC (getV r5)).tail.headD .dead)) (toR ((toC (getV r5)).tail.headD .dead)) (toG ((toC (getV r5)).tail.headD .dead)),AV.int .i64 (toI ((toC (getV r5)).tail.tail.headD .dead))],AV.agg [AV.bool (toB ((toC ((toT (getV r2)).headD .dead)).headD .dead)),AV.ro 1 (toN ((toC ((toT (getV r2)).headD .dead)).tail.headD .dead)) (toR ((toC ((toT (getV r2)).headD .dead)).tail.headD .dead)) (toG ((toC ((toT (getV r2)).headD .dead)).tail.headD .dead)),AV.int .i64 (toI ((toC ((toT (getV r2)).headD .dead)).tail.tail.headD .dead))]])) <| ck (bif !decide (toI (getV (qk [AV.agg [AV.bool (toB ((toC (getV r5)).headD .dead)),AV.ro 1 (toN ((toC (getV r5)).tail.headD .dead)) (toR ((toC (getV r5)).tail.headD .dead)) (toG ((toC (getV r5)).tail.headD .dead)),AV.int .i64 (toI ((toC (getV r5)).tail.tail.headD .dead))],AV.agg [AV.bool (toB ((toC ((toT (getV r2)).headD .dead)).headD .dead)),AV.ro 1 (toN ((toC ((toT (getV r2)).headD .dead)).tail.headD .dead)) (toR ((toC ((toT (getV r2)).headD .dead)).tail.headD .dead)) (toG ((toC ((toT (getV r2)).headD .dead)).tail.headD .dead)),AV.int .i64 (toI ((toC ((toT (getV r2)).headD .dead)).tail.tail.headD .dead))]])) > 0) then true else true) <| ck (bif !decide (toI (getV (qk [AV.agg [AV.bool (toB ((toC (getV r5)).headD .dead)),AV.ro 1 (toN ((toC (getV r5)).tail.headD .dead)) (toR ((toC (getV r5)).tail.headD .dead)) (toG ((toC (getV r5)).tail.headD .dead)),AV.int .i64 (toI ((toC (getV r5)).tail.tail.headD .dead))],AV.agg [AV.bool (toB ((toC ((toT (getV r2)).headD .dead)).headD .dead)),AV.ro 1 (toN ((toC ((toT (getV r2)).headD .dead)).tail.headD .dead)) (toR ((toC ((toT (getV r2)).headD .dead)).tail.headD .dead)) (toG ((toC ((toT (getV r2)).headD .dead)).tail.headD .dead)),AV.int .i64 (toI ((toC ((toT (getV r2)).headD .dead)).tail.tail.headD .dead))]])) > 0) then true else true) <| ck (bif !decide (toI (getV (qk [AV.agg [AV.bool (toB ((toC (getV r5)).headD .dead)),AV.ro 1 (toN ((toC (getV r5)).tail.headD .dead)) (toR ((toC (getV r5)).tail.headD .dead)) (toG ((toC (getV r5)).tail.headD .dead)),AV.int .i64 (toI ((toC (getV r5)).tail.tail.headD .dead))],AV.agg [AV.bool (toB ((toC ((toT (getV r2)).headD .dead)).headD .dead)),AV.ro 1 (toN ((toC ((toT (getV r2)).headD .dead)).tail.headD .dead)) (toR ((toC ((toT (getV r2)).headD .dead)).tail.headD .dead)) (toG ((toC ((toT (getV r2)).headD .dead)).tail.headD .dead)),AV.int .i64 (toI ((toC ((toT (getV r2)).headD .dead)).tail.tail.headD .dead))]])) > 0) then okM [RS.one (LK.i .i64)] (qk [AV.agg [AV.bool (toB ((toC ((toT (getV r2)).headD .dead)).headD .dead)),AV.ro 1 (toN ((toC ((toT (getV r2)).headD .dead)).tail.headD .dead)) (toR ((toC ((toT (getV r2)).headD .dead)).tail.headD .dead)) (toG ((toC ((toT (getV r2)).headD .dead)).tail.headD .dead)),AV.int .i64 (toI ((toC ((toT (getV r2)).headD .dead)).tail.tail.headD .dead))],AV.agg [AV.bool (toB ((toC (getV r8)).headD .dead)),AV.ro 1 (toN ((toC (getV r8)).tail.headD .dead)) (toR ((toC (getV r8)).tail.headD .dead)) (toG ((toC (getV r8)).tail.headD .dead)),AV.int .i64 (toI ((toC (getV r8)).tail.tail.headD .dead))]]) else true) <| bif bif decide (toI (getV (qk [AV.agg [AV.bool (toB ((toC (getV r5)).headD .dead)),AV.ro 1 (toN ((toC (getV r5)).tail.headD .dead)) (toR ((toC (getV r5)).tail.headD .dead)) (toG ((toC (getV r5)).tail.headD .dead)),AV.int .i64 (toI ((toC (getV r5)).tail.tail.headD .dead))],AV.agg [AV.bool (toB ((toC ((toT (getV r2)).headD .dead)).headD .dead)),AV.ro 1 (toN ((toC ((toT (getV r2)).headD .dead)).tail.headD .dead)) (toR ((toC ((toT (getV r2)).headD .dead)).tail.headD .dead)) (toG ((toC ((toT (getV r2)).headD .dead)).tail.headD .dead)),AV.int .i64 (toI ((toC ((toT (getV r2)).headD .dead)).tail.tail.headD .dead))]])) > 0) then true else decide (toI (getV (qk [AV.agg [AV.bool (toB ((toC ((toT (getV r2)).headD .dead)).headD .dead)),AV.ro 1 (toN ((toC ((toT (getV r2)).headD .dead)).tail.headD .dead)) (toR ((toC ((toT (getV r2)).headD .dead)).tail.headD .dead)) (toG ((toC ((toT (getV r2)).headD .dead)).tail.headD .dead)),AV.int .i64 (toI ((toC ((toT (getV r2)).headD .dead)).tail.tail.headD .dead))],AV.agg [AV.bool (toB ((toC (getV r8)).headD .dead)),AV.ro 1 (toN ((toC (getV r8)).tail.headD .dead)) (toR ((toC (getV r8)).tail.headD .dead)) (toG ((toC (getV r8)).tail.headD .dead)),AV.int .i64 (toI ((toC (getV r8)).tail.tail.headD .dead))]])) > 0) then kx2 false ym wq wp wr vg vk vf vm vh vj vn vl vi qaz qay qa0 qax qav qaw qce qb4 qcc qb5 qca qb0 qb2 qcf qb1 (toI (ww w1.toNat 0)) (toI (ww w1.toNat 1)) (toI (ww w1.toNat 2)) (toI (ww w1.toNat 3)) (toI (ww w1.toNat 4)) (toI (ww w1.toNat 5)) (toI (ww w1.toNat 6)) (toI (ww w1.toNat 7)) (toF (ww w1.toNat 8)) (toF (ww w1.toNat 9)) (toF (ww w1.toNat 10)) (toB ((toC ((toT (getV r2)).headD .dead)).headD .dead)) (toN ((toC ((toT (getV r2)).headD .dead)).tail.headD .dead)) (toR ((toC ((toT (getV r2)).headD .dead)).tail.headD .dead)) (toG ((toC ((toT (getV r2)).headD .dead)).tail.headD .dead)) (toI ((toC ((toT (getV r2)).headD .dead)).tail.tail.headD .dead)) (toB ((toC ((toT (getV r2)).tail.headD .dead)).headD .dead)) (toN ((toC ((toT (getV r2)).tail.headD .dead)).tail.headD .dead)) (toR ((toC ((toT (getV r2)).tail.headD .dead)).tail.headD .dead)) (toG ((toC ((toT (getV r2)).tail.headD .dead)).tail.headD .dead)) (toI ((toC ((toT (getV r2)).tail.headD .dead)).tail.tail.headD .dead)) (toB ((toC (getV r5)).headD .dead)) (toN ((toC (getV r5)).tail.headD .dead)) (toR ((toC (getV r5)).tail.headD .dead)) (toG ((toC (getV r5)).tail.headD .dead)) (toI ((toC (getV r5)).tail.tail.headD .dead)) (toB ((toC (getV r8)).headD .dead)) (toN ((toC (getV r8)).tail.headD .dead)) (toR ((toC (getV r8)).tail.headD .dead)) (toG ((toC (getV r8)).tail.headD .dead)) (toI ((toC (getV r8)).tail.tail.headD .dead))
    else kn (IntKind.i64.wrap (w1 + 1)) (IntKind.i64.wrap (qhh + 1))
  else kx3 pg qcx ww w1 qbn ym wq wp wr vg vk vf vm vh vj vn vl vi qaz qay qa0 qax qav qaw qce qb4 qcc qb5 qca qb0 qb2 qcf qb1
noncomputable def glaw19_BarsTrue_l0 (qe qg : Mo) (qv qi : Mo) (qh qk qt : Mo) (fuel : Nat) (kx0 : Bool → Int → Nat → Nat → Ge → Nat → Nat → Ge → Nat → Nat → Ge → Nat → Nat → Ge → Nat → Nat → Ge → Nat → Nat → Ge → ByteArray → Int → Int → Int → Bool → Bool → Option Nat → Option Nat → Option Nat → Option AV) (kx1 : Bool → Int → Nat → Nat → Ge → Nat → Nat → Ge → Nat → Nat → Ge → Nat → Nat → Ge → Nat → Nat → Ge → Nat → Nat → Ge → ByteArray → Int → Int → Int → Bool → Bool → Option Nat → Option Nat → Option Nat → Int → Int → Int → Int → Int → Int → Int → Int → Option Nat → Option Nat → Option Nat → Option AV) (kx2 : Bool → Int → Nat → Nat → Ge → Nat → Nat → Ge → Nat → Nat → Ge → Nat → Nat → Ge → Nat → Nat → Ge → Nat → Nat → Ge → ByteArray → Int → Int → Int → Bool → Bool → Option Nat → Option Nat → Option Nat → Int → Int → Int → Int → Int → Int → Int → Int → Option Nat → Option Nat → Option Nat → Bool → Nat → Nat → Ge → Int → Bool → Nat → Nat → Ge → Int → Bool → Nat → Nat → Ge → Int → Bool → Nat → Nat → Ge → Int → Option AV) (kx3 : Nat → Nat → Ge → Int → Int → Int → Nat → Nat → Ge → Nat → Nat → Ge → Nat → Nat → Ge → Nat → Nat → Ge → Nat → Nat → Ge → Nat → Nat → Ge → ByteArray → Int → Int → Int → Bool → Bool → Option Nat → Option Nat → Option Nat → Option AV) (pg qcx : Nat) (ww : Ge) (qbn qie : Int) (qhc ym : Int) (wq wp : Nat) (wr : Ge) (vg vk : Nat) (vf : Ge) (vm vh : Nat) (vj : Ge) (vn vl : Nat) (vi : Ge) (qaz qay : Nat) (qa0 : Ge) (qax qav : Nat) (qaw : Ge) (qce : ByteArray) (qb4 qcc qb5 : Int) (qca qb0 : Bool) (qb2 qcf qb1 : Option Nat) : Nat → Int → Int → Option AV
  | 0,_,_ => none
  | n' + 1,w1,qhh => glaw19_BarsTrue_l0_step qe qg qv qi qh qk qt fuel (glaw19_BarsTrue_l0 qe qg qv qi qh qk qt fuel kx0 kx1 kx2 kx3 pg qcx ww qbn qie qhc ym wq wp wr vg vk vf vm vh vj vn vl vi qaz qay qa0 qax qav qaw qce qb4 qcc qb5 qca qb0 qb2 qcf qb1 n') kx0 kx1 kx2 kx3 pg qcx ww qbn qie qhc ym wq wp wr vg vk vf vm vh vj vn vl vi qaz qay qa0 qax qav qaw qce qb4 qcc qb5 qca qb0 qb2 qcf qb1 w1 qhh
termination_by structural k => k
noncomputable def Tlaw19_BarsTrue_0 : TS' := ⟨[(3,TA.ptr 1 0),(4,TA.ro 11),(6,TA.i .i64),(7,TA.i .i64),(8,TA.ptr 2 0),(11,TA.i .i64),(12,TA.i .i64),(13,TA.i .i64)],[TB.box [TA.i .i64,TA.ro 1,TA.ro 1,TA.ro 1,TA.ro 1],TB.box [TA.ro 4,TA.ro 9],TB.box [TA.s,TA.i .u8,TA.i .i64,TA.i .i64,TA.b,TA.b,TA.f .f64,TA.f .f64,TA.f .f64]],[]⟩
noncomputable def Flaw19_BarsTrue_0 (qe qg : Mo) (qv qi : Mo) (qh qk qt : Mo) (fuel : Nat) (ps : List Pay) (K : Ex → St → Option AV) : Option AV := match ps with
  | .n pg :: .n qcx :: .g ww :: .i w1 :: .i qbn :: .i qie :: .i qhc :: .i qhh :: .i ym :: .n wq :: .n wp :: .g wr :: .n vg :: .n vk :: .g vf :: .n vm :: .n vh :: .g vj :: .n vn :: .n vl :: .g vi :: .n qaz :: .n qay :: .g qa0 :: .n qax :: .n qav :: .g qaw :: .s qce :: .i qb4 :: .i qcc :: .i qb5 :: .b qca :: .b qb0 :: .o qb2 :: .o qcf :: .o qb1 :: [] => glaw19_BarsTrue_l0 qe qg qv qi qh qk qt fuel (fun q0p qsu qqw qnm qm4 qnl qpz qq2 qn9 qq1 qq6 qmi qot qp2 qne qnx qm1 qoz qp5 qmp qud quj qrc qvn qsd qu4 qsm qsn qte => K (Ex.ret) (Xlaw19_BarsTrue_0_0 q0p qsu qqw qnm qm4 qnl qpz qq2 qn9 qq1 qq6 qmi qot qp2 qne qnx qm1 qoz qp5 qmp qud quj qrc qvn qsd qu4 qsm qsn qte)) (fun qzr qux qql qop qmq qq3 qo7 qm9 qpl qng qmm qob qpq qn6 qo9 qor qog qns qmk qox qtm quy qsg qtx qup qs6 qrl qvz quk qxk qxg qx6 qxh qw9 qwn qwo qxu qxj qxn qts => K (Ex.ret) (Xlaw19_BarsTrue_0_1 qzr qux qql qop qmq qq3 qo7 qm9 qpl qng qmm qob qpq qn6 qo9 qor qog qns qmk qox qtm quy qsg qtx qup qs6 qrl qvz quk qxk qxg qx6 qxh qw9 qwn qwo qxu qxj qxn qts)) (fun qz5 quh qoy qqd qmg qqz qmx qqs qmu qph qnf qna qp6 qod qo8 qpk qni qoi qoo qp1 qtk qvg qur qu8 qtq qvj qua qrw qvc qw2 qx5 qwp qwz qyg qxt qya qyr qw8 qxy qvi qyj qtc qtu qr1 qww qyq qr7 qt5 que qx0 qw7 qs1 qrk qu0 qxf qye qrb qvf quu qxx => K (Ex.ret) (Xlaw19_BarsTrue_0_2 qz5 quh qoy qqd qmg qqz qmx qqs qmu qph qnf qna qp6 qod qo8 qpk qni qoi qoo qp1 qtk qvg qur qu8 qtq qvj qua qrw qvc qw2 qx5 qwp qwz qyg qxt qya qyr qw8 qxy qvi qyj qtc qtu qr1 qww qyq qr7 qt5 que qx0 qw7 qs1 qrk qu0 qxf qye qrb qvf quu qxx)) (fun qx1 qxv qx8 qzk qz6 qrg qnr qqe qqu qm3 qo6 qpc qqx qml qos qmt qpr qq0 qp8 qmn qnb qno qpp qny qtg qu9 qum qu2 qtn qsk qse qtp qrt => K (Ex.exit 2) (Xlaw19_BarsTrue_0_3 qx1 qxv qx8 qzk qz6 qrg qnr qqe qqu qm3 qo6 qpc qqx qml qos qmt qpr qq0 qp8 qmn qnb qno qpp qny qtg qu9 qum qu2 qtn qsk qse qtp qrt)) pg qcx ww qbn qie qhc ym wq wp wr vg vk vf vm vh vj vn vl vi qaz qay qa0 qax qav qaw qce qb4 qcc qb5 qca qb0 qb2 qcf qb1 fuel w1 qhh
  | _ => none
noncomputable def Slaw19_BarsTrue_1 (qhy qhz : Nat) (qhv : Ge) (at6 ui7 vx : Int) (wt wu : Nat) (wv : Ge) (px pv : Nat) (py : Ge) (qaf p9 : Nat) (qab : Ge) (qae qad : Nat) (qag : Ge) (qdg qeb : Nat) (pk : Ge) (p2 qah : Nat) (w2 : Ge) : St := { env := [(3,AV.ptr 1 0),(4,AV.ro 11 qhy qhz qhv),(6,AV.int .i64 at6),(7,AV.int .i64 ui7)],h := [Blk.box [AV.int .i64 vx,AV.ro 1 wt wu wv,AV.ro 1 px pv py,AV.ro 1 qaf p9 qab,AV.ro 1 qae qad qag],Blk.box [AV.ro 4 qdg qeb pk,AV.ro 9 p2 qah w2]],kd := [] }
noncomputable def Xlaw19_BarsTrue_1_0 (q0r : Bool) (qun : Int) (qp9 qow : Nat) (qnq : Ge) (qom qpm : Nat) (qm7 : Ge) (qnc qmc : Nat) (qqi : Ge) (qpi qo4 : Nat) (qqk : Ge) (qpf qol : Nat) (qnk : Ge) (qmf qm0 : Nat) (qn0 : Ge) (qvo : ByteArray) (qu6 qrj qsw : Int) (qub qt1 : Bool) (qr4 qsl qta : Option Nat) : St := { env := [(2,AV.bool q0r)],h := [Blk.box [AV.int .i64 qun,AV.ro 1 qp9 qow qnq,AV.ro 1 qom qpm qm7,AV.ro 1 qnc qmc qqi,AV.ro 1 qpi qo4 qqk],Blk.box [AV.ro 4 qpf qol qnk,AV.ro 9 qmf qm0 qn0],Blk.box [AV.str qvo,AV.int .u8 qu6,AV.int .i64 qrj,AV.int .i64 qsw,AV.bool qub,AV.bool qt1,AV.flt .f64 qr4,AV.flt .f64 qsl,AV.flt .f64 qta]],kd := [] }
noncomputable def Xlaw19_BarsTrue_1_1 (qzs : Bool) (qvv : Int) (qq4 qpw : Nat) (qoq : Ge) (qmd qm6 : Nat) (qnt : Ge) (qmv qqr : Nat) (qn3 : Ge) (qpy qqg : Nat) (qqf : Ge) (qpb qpd : Nat) (qq5 : Ge) (qnp qp4 : Nat) (qqt : Ge) (qvs : ByteArray) (qst quf qsj : Int) (qt0 qrv : Bool) (qt3 qrm qus : Option Nat) (qvt qvd : Int) (qti qul : Int) (qty qt8 : Int) (qui qtj : Int) (qrd qrp qmy : Option Nat) : St := { env := [(2,AV.bool qzs)],h := [Blk.box [AV.int .i64 qvv,AV.ro 1 qq4 qpw qoq,AV.ro 1 qmd qm6 qnt,AV.ro 1 qmv qqr qn3,AV.ro 1 qpy qqg qqf],Blk.box [AV.ro 4 qpb qpd qq5,AV.ro 9 qnp qp4 qqt],Blk.box [AV.str qvs,AV.int .u8 qst,AV.int .i64 quf,AV.int .i64 qsj,AV.bool qt0,AV.bool qrv,AV.flt .f64 qt3,AV.flt .f64 qrm,AV.flt .f64 qus],Blk.box [AV.int .i64 qvt,AV.int .u8 qvd,AV.int .i64 qti,AV.int .i64 qul,AV.int .i64 qty,AV.int .i64 qt8,AV.int .i64 qui,AV.int .i64 qtj,AV.flt .f64 qrd,AV.flt .f64 qrp,AV.flt .f64 qmy]],kd := [] }
noncomputable def Xlaw19_BarsTrue_1_2 (qzy : Bool) (qrr : Int) (qn8 qqa : Nat) (qoa : Ge) (qm5 qqp : Nat) (qof : Ge) (qnn qn1 : Nat) (qo0 : Ge) (qqb qok : Nat) (qqh : Ge) (qme qn5 : Nat) (qnj : Ge) (qps qpv : Nat) (qqn : Ge) (qsf : ByteArray) (qu5 qs8 qsb : Int) (qs3 qvq : Bool) (qtt qss qro : Option Nat) (qu7 qru : Int) (qsh quc : Int) (qvu qvm : Int) (qu3 qs9 : Int) (qtv qr5 qqv : Option Nat) (qyi : Bool) (qsz qth : Nat) (qs2 : Ge) (qw5 : Int) (qxp : Bool) (quq qr8 : Nat) (qsa : Ge) (qyc : Int) (qwu : Bool) (qrz qs5 : Nat) (qsc : Ge) (qw6 : Int) (qxb : Bool) (qr2 qve : Nat) (qrq : Ge) (qyd : Int) : St := { env := [(2,AV.bool qzy)],h := [Blk.box [AV.int .i64 qrr,AV.ro 1 qn8 qqa qoa,AV.ro 1 qm5 qqp qof,AV.ro 1 qnn qn1 qo0,AV.ro 1 qqb qok qqh],Blk.box [AV.ro 4 qme qn5 qnj,AV.ro 9 qps qpv qqn],Blk.box [AV.str qsf,AV.int .u8 qu5,AV.int .i64 qs8,AV.int .i64 qsb,AV.bool qs3,AV.bool qvq,AV.flt .f64 qtt,AV.flt .f64 qss,AV.flt .f64 qro],Blk.box [AV.int .i64 qu7,AV.int .u8 qru,AV.int .i64 qsh,AV.int .i64 quc,AV.int .i64 qvu,AV.int .i64 qvm,AV.int .i64 qu3,AV.int .i64 qs9,AV.flt .f64 qtv,AV.flt .f64 qr5,AV.flt .f64 qqv],Blk.box [AV.bool qyi,AV.ro 1 qsz qth qs2,AV.int .i64 qw5],Blk.box [AV.bool qxp,AV.ro 1 quq qr8 qsa,AV.int .i64 qyc],Blk.box [AV.bool qwu,AV.ro 1 qrz qs5 qsc,AV.int .i64 qw6],Blk.box [AV.bool qxb,AV.ro 1 qr2 qve qrq,AV.int .i64 qyd]],kd := [] }
noncomputable def Xlaw19_BarsTrue_1_3 (qxm qym : Nat) (qws : Ge) (qy0 qvy : Int) (qpg qmb : Nat) (qms : Ge) (qqq qm8 : Nat) (qnv : Ge) (qqc qma : Nat) (qn4 : Ge) (ql8 qo3 : Nat) (qp0 : Ge) (qnw qpx : Nat) (qo5 : Ge) (qmz qm2 : Nat) (qpa : Ge) : St := { env := [(4,AV.ro 11 qxm qym qws),(6,AV.int .i64 qy0)],h := [Blk.box [AV.int .i64 qvy,AV.ro 1 qpg qmb qms,AV.ro 1 qqq qm8 qnv,AV.ro 1 qqc qma qn4,AV.ro 1 ql8 qo3 qp0],Blk.box [AV.ro 4 qnw qpx qo5,AV.ro 9 qmz qm2 qpa]],kd := [] }
noncomputable def glaw19_BarsTrue_l1_step (qe qg : Mo) (qv qi : Mo) (qh qk qt : Mo) (fuel : Nat) (kn : Nat → Nat → Ge → Int → Int → Int → Nat → Nat → Ge → Nat → Nat → Ge → Nat → Nat → Ge → Nat → Nat → Ge → Nat → Nat → Ge → Nat → Nat → Ge → Option AV) (kx0 : Bool → Int → Nat → Nat → Ge → Nat → Nat → Ge → Nat → Nat → Ge → Nat → Nat → Ge → Nat → Nat → Ge → Nat → Nat → Ge → ByteArray → Int → Int → Int → Bool → Bool → Option Nat → Option Nat → Option Nat → Option AV) (kx1 : Bool → Int → Nat → Nat → Ge → Nat → Nat → Ge → Nat → Nat → Ge → Nat → Nat → Ge → Nat → Nat → Ge → Nat → Nat → Ge → ByteArray → Int → Int → Int → Bool → Bool → Option Nat → Option Nat → Option Nat → Int → Int → Int → Int → Int → Int → Int → Int → Option Nat → Option Nat → Option Nat → Option AV) (kx2 : Bool → Int → Nat → Nat → Ge → Nat → Nat → Ge → Nat → Nat → Ge → Nat → Nat → Ge → Nat → Nat → Ge → Nat → Nat → Ge → ByteArray → Int → Int → Int → Bool → Bool → Option Nat → Option Nat → Option Nat → Int → Int → Int → Int → Int → Int → Int → Int → Option Nat → Option Nat → Option Nat → Bool → Nat → Nat → Ge → Int → Bool → Nat → Nat → Ge → Int → Bool → Nat → Nat → Ge → Int → Bool → Nat → Nat → Ge → Int → Option AV) (kx3 : Nat → Nat → Ge → Int → Int → Nat → Nat → Ge → Nat → Nat → Ge → Nat → Nat → Ge → Nat → Nat → Ge → Nat → Nat → Ge → Nat → Nat → Ge → Option AV) (qhy qhz : Nat) (qhv : Ge) (at6 ui7 vx : Int) (wt wu : Nat) (wv : Ge) (px pv : Nat) (py : Ge) (qaf p9 : Nat) (qab : Ge) (qae qad : Nat) (qag : Ge) (qdg qeb : Nat) (pk : Ge) (p2 qah : Nat) (w2 : Ge) : Option AV :=
  bif decide (ui7 < (↑p2 : Int)) then ck (decide (0 ≤ ui7)) <| ck (decide (ui7 < (↑p2 : Int))) <| ck (fitKs [LK.s,LK.i .u8,LK.i .i64,LK.i .i64,LK.b,LK.b,LK.f .f64,LK.f .f64,LK.f .f64] [w2 ui7.toNat 0,w2 ui7.toNat 1,w2 ui7.toNat 2,w2 ui7.toNat 3,w2 ui7.toNat 4,w2 ui7.toNat 5,w2 ui7.toNat 6,w2 ui7.toNat 7,w2 ui7.toNat 8]) <| ck (decide (0 ≤ toI (w2 ui7.toNat 3))) <| ck (decide (toI (w2 ui7.toNat 3) < (↑qdg : Int))) <| ck (fitK (LK.i .i32) (pk (toI (w2 ui7.toNat 3)).toNat 1)) <| ck (decide (0 ≤ toI (w2 ui7.toNat 2))) <| ck (decide (toI (w2 ui7.toNat 2) < (↑qdg : Int))) <| ck (fitK (LK.i .i32) (pk (toI (w2 ui7.toNat 2)).toNat 1)) <| ck (decide (0 ≤ toI (w2 ui7.toNat 3))) <| ck (decide (toI (w2 ui7.toNat 3) < (↑qdg : Int))) <| ck (fitK (LK.i .i32) (pk (toI (w2 ui7.toNat 3)).toNat 2)) <| ck (decide (0 ≤ toI (w2 ui7.toNat 2))) <| ck (decide (toI (w2 ui7.toNat 2) < (↑qdg : Int))) <| ck (fitK (LK.i .i32) (pk (toI (w2 ui7.toNat 2)).toNat 2)) <| ck (bif toI (w2 ui7.toNat 1) == 2 then true else true) <| ck (bif bif toI (w2 ui7.toNat 1) == 2 then !toB (w2 ui7.toNat 4) else false then true else true) <| bif bif bif toI (w2 ui7.toNat 1) == 2 then !toB (w2 ui7.toNat 4) else false then !toB (w2 ui7.toNat 5) else false then glaw19_BarsTrue_l0 qe qg qv qi qh qk qt fuel
        kx0
        kx1
        kx2
        (fun (qi6 qiw : Nat) (qi1 : Ge) (qmr q0j qly : Int) (qap qao : Nat) (qan : Ge) (qj8 qkd : Nat) (qkr : Ge) (qkh qkg : Nat) (qkv : Ge) (qj4 qkj : Nat) (qj5 : Ge) (q2t q5h : Nat) (q6u : Ge) (q3x q6n : Nat) (q6p : Ge) (_ : ByteArray) (_ _ _ : Int) (_ _ : Bool) (_ _ _ : Option Nat) => kn qi6 qiw qi1 qmr (IntKind.i64.wrap (q0j + 1)) qly qap qao qan qj8 qkd qkr qkh qkg qkv qj4 qkj qj5 q2t q5h q6u q3x q6n q6p)
        qhy
        qhz
        qhv
        ui7
        (IntKind.i64.wrap (IntKind.i64.wrap (IntKind.i64.wrap (IntKind.i64.wrap (toI (pk (toI (w2 ui7.toNat 3)).toNat 1)) - IntKind.i64.wrap (toI (pk (toI (w2 ui7.toNat 2)).toNat 1))) * IntKind.i64.wrap (IntKind.i64.wrap (toI (pk (toI (w2 ui7.toNat 3)).toNat 1)) - IntKind.i64.wrap (toI (pk (toI (w2 ui7.toNat 2)).toNat 1)))) + IntKind.i64.wrap (IntKind.i64.wrap (IntKind.i64.wrap (toI (pk (toI (w2 ui7.toNat 3)).toNat 2)) - IntKind.i64.wrap (toI (pk (toI (w2 ui7.toNat 2)).toNat 2))) * IntKind.i64.wrap (IntKind.i64.wrap (toI (pk (toI (w2 ui7.toNat 3)).toNat 2)) - IntKind.i64.wrap (toI (pk (toI (w2 ui7.toNat 2)).toNat 2))))))
        (3)
        vx
        wt
        wu
        wv
        px
        pv
        py
        qaf
        p9
        qab
        qae
        qad
        qag
        qdg
        qeb
        pk
        p2
        qah
        w2
        (toS (w2 ui7.toNat 0))
        (toI (w2 ui7.toNat 1))
        (toI (w2 ui7.toNat 2))
        (toI (w2 ui7.toNat 3))
        (toB (w2 ui7.toNat 4))
        (toB (w2 ui7.toNat 5))
        (toF (w2 ui7.toNat 6))
        (toF (w2 ui7.toNat 7))
        (toF (w2 ui7.toNat 8)) fuel at6 (0)
    else ck (bif toI (w2 ui7.toNat 1) == 2 then true else true) <| ck (bif !!toB (w2 ui7.toNat 4) then true else true) <| bif bif toI (w2 ui7.toNat 1) == 2 then bif !toB (w2 ui7.toNat 4) then true else !toB (w2 ui7.toNat 5) else false then glaw19_BarsTrue_l0 qe qg qv qi qh qk qt fuel
        kx0
        kx1
        kx2
        (fun (q8c q99 : Nat) (q8g : Ge) (wak wam q84 : Int) (q4n q38 : Nat) (q6h : Ge) (q6i q3s : Nat) (q43 : Ge) (q28 q3g : Nat) (q6o : Ge) (q3c q4o : Nat) (q3y : Ge) (q2z q32 : Nat) (q6g : Ge) (q3a q36 : Nat) (q2y : Ge) (_ : ByteArray) (_ _ _ : Int) (_ _ : Bool) (_ _ _ : Option Nat) => kn q8c q99 q8g wak (IntKind.i64.wrap (wam + 1)) q84 q4n q38 q6h q6i q3s q43 q28 q3g q6o q3c q4o q3y q2z q32 q6g q3a q36 q2y)
        qhy
        qhz
        qhv
        ui7
        (IntKind.i64.wrap (IntKind.i64.wrap (IntKind.i64.wrap (IntKind.i64.wrap (toI (pk (toI (w2 ui7.toNat 3)).toNat 1)) - IntKind.i64.wrap (toI (pk (toI (w2 ui7.toNat 2)).toNat 1))) * IntKind.i64.wrap (IntKind.i64.wrap (toI (pk (toI (w2 ui7.toNat 3)).toNat 1)) - IntKind.i64.wrap (toI (pk (toI (w2 ui7.toNat 2)).toNat 1)))) + IntKind.i64.wrap (IntKind.i64.wrap (IntKind.i64.wrap (toI (pk (toI (w2 ui7.toNat 3)).toNat 2)) - IntKind.i64.wrap (toI (pk (toI (w2 ui7.toNat 2)).toNat 2))) * IntKind.i64.wrap (IntKind.i64.wrap (toI (pk (toI (w2 ui7.toNat 3)).toNat 2)) - IntKind.i64.wrap (toI (pk (toI (w2 ui7.toNat 2)).toNat 2))))))
        (2)
        vx
        wt
        wu
        wv
        px
        pv
        py
        qaf
        p9
        qab
        qae
        qad
        qag
        qdg
        qeb
        pk
        p2
        qah
        w2
        (toS (w2 ui7.toNat 0))
        (toI (w2 ui7.toNat 1))
        (toI (w2 ui7.toNat 2))
        (toI (w2 ui7.toNat 3))
        (toB (w2 ui7.toNat 4))
        (toB (w2 ui7.toNat 5))
        (toF (w2 ui7.toNat 6))
        (toF (w2 ui7.toNat 7))
        (toF (w2 ui7.toNat 8)) fuel at6 (0)
    else glaw19_BarsTrue_l0 qe qg qv qi qh qk qt fuel
      kx0
      kx1
      kx2
      (fun (q72 q9h : Nat) (q9d : Ge) (wal war q4p : Int) (q2a q1r : Nat) (q16 : Ge) (q12 q1m : Nat) (q1u : Ge) (q09 q19 : Nat) (q05 : Ge) (q1s q1f : Nat) (q1b : Ge) (q2m q0x : Nat) (q1j : Ge) (q2d q03 : Nat) (q01 : Ge) (_ : ByteArray) (_ _ _ : Int) (_ _ : Bool) (_ _ _ : Option Nat) => kn q72 q9h q9d wal (IntKind.i64.wrap (war + 1)) q4p q2a q1r q16 q12 q1m q1u q09 q19 q05 q1s q1f q1b q2m q0x q1j q2d q03 q01)
      qhy
      qhz
      qhv
      ui7
      (IntKind.i64.wrap (IntKind.i64.wrap (IntKind.i64.wrap (IntKind.i64.wrap (toI (pk (toI (w2 ui7.toNat 3)).toNat 1)) - IntKind.i64.wrap (toI (pk (toI (w2 ui7.toNat 2)).toNat 1))) * IntKind.i64.wrap (IntKind.i64.wrap (toI (pk (toI (w2 ui7.toNat 3)).toNat 1)) - IntKind.i64.wrap (toI (pk (toI (w2 ui7.toNat 2)).toNat 1)))) + IntKind.i64.wrap (IntKind.i64.wrap (IntKind.i64.wrap (toI (pk (toI (w2 ui7.toNat 3)).toNat 2)) - IntKind.i64.wrap (toI (pk (toI (w2 ui7.toNat 2)).toNat 2))) * IntKind.i64.wrap (IntKind.i64.wrap (toI (pk (toI (w2 ui7.toNat 3)).toNat 2)) - IntKind.i64.wrap (toI (pk (toI (w2 ui7.toNat 2)).toNat 2))))))
      (1)
      vx
      wt
      wu
      wv
      px
      pv
      py
      qaf
      p9
      qab
      qae
      qad
      qag
      qdg
      qeb
      pk
      p2
      qah
      w2
      (toS (w2 ui7.toNat 0))
      (toI (w2 ui7.toNat 1))
      (toI (w2 ui7.toNat 2))
      (toI (w2 ui7.toNat 3))
      (toB (w2 ui7.toNat 4))
      (toB (w2 ui7.toNat 5))
      (toF (w2 ui7.toNat 6))
      (toF (w2 ui7.toNat 7))
      (toF (w2 ui7.toNat 8)) fuel at6 (0)
  else kx3 qhy qhz qhv at6 vx wt wu wv px pv py qaf p9 qab qae qad qag qdg qeb pk p2 qah w2
noncomputable def glaw19_BarsTrue_l1 (qe qg : Mo) (qv qi : Mo) (qh qk qt : Mo) (fuel : Nat) (kx0 : Bool → Int → Nat → Nat → Ge → Nat → Nat → Ge → Nat → Nat → Ge → Nat → Nat → Ge → Nat → Nat → Ge → Nat → Nat → Ge → ByteArray → Int → Int → Int → Bool → Bool → Option Nat → Option Nat → Option Nat → Option AV) (kx1 : Bool → Int → Nat → Nat → Ge → Nat → Nat → Ge → Nat → Nat → Ge → Nat → Nat → Ge → Nat → Nat → Ge → Nat → Nat → Ge → ByteArray → Int → Int → Int → Bool → Bool → Option Nat → Option Nat → Option Nat → Int → Int → Int → Int → Int → Int → Int → Int → Option Nat → Option Nat → Option Nat → Option AV) (kx2 : Bool → Int → Nat → Nat → Ge → Nat → Nat → Ge → Nat → Nat → Ge → Nat → Nat → Ge → Nat → Nat → Ge → Nat → Nat → Ge → ByteArray → Int → Int → Int → Bool → Bool → Option Nat → Option Nat → Option Nat → Int → Int → Int → Int → Int → Int → Int → Int → Option Nat → Option Nat → Option Nat → Bool → Nat → Nat → Ge → Int → Bool → Nat → Nat → Ge → Int → Bool → Nat → Nat → Ge → Int → Bool → Nat → Nat → Ge → Int → Option AV) (kx3 : Nat → Nat → Ge → Int → Int → Nat → Nat → Ge → Nat → Nat → Ge → Nat → Nat → Ge → Nat → Nat → Ge → Nat → Nat → Ge → Nat → Nat → Ge → Option AV) : Nat → Nat → Nat → Ge → Int → Int → Int → Nat → Nat → Ge → Nat → Nat → Ge → Nat → Nat → Ge → Nat → Nat → Ge → Nat → Nat → Ge → Nat → Nat → Ge → Option AV
  | 0,_,_,_,_,_,_,_,_,_,_,_,_,_,_,_,_,_,_,_,_,_,_,_,_ => none
  | n' + 1,qhy,qhz,qhv,at6,ui7,vx,wt,wu,wv,px,pv,py,qaf,p9,qab,qae,qad,qag,qdg,qeb,pk,p2,qah,w2 => glaw19_BarsTrue_l1_step qe qg qv qi qh qk qt fuel (glaw19_BarsTrue_l1 qe qg qv qi qh qk qt fuel kx0 kx1 kx2 kx3 n') kx0 kx1 kx2 kx3 qhy qhz qhv at6 ui7 vx wt wu wv px pv py qaf p9 qab qae qad qag qdg qeb pk p2 qah w2
termination_by structural k => k
noncomputable def Tlaw19_BarsTrue_1 : TS' := ⟨[(3,TA.ptr 1 0),(4,TA.ro 11),(6,TA.i .i64),(7,TA.i .i64)],[TB.box [TA.i .i64,TA.ro 1,TA.ro 1,TA.ro 1,TA.ro 1],TB.box [TA.ro 4,TA.ro 9]],[]⟩
noncomputable def Flaw19_BarsTrue_1 (qe qg : Mo) (qv qi : Mo) (qh qk qt : Mo) (fuel : Nat) (ps : List Pay) (K : Ex → St → Option AV) : Option AV := match ps with
  | .n qhy :: .n qhz :: .g qhv :: .i at6 :: .i ui7 :: .i vx :: .n wt :: .n wu :: .g wv :: .n px :: .n pv :: .g py :: .n qaf :: .n p9 :: .g qab :: .n qae :: .n qad :: .g qag :: .n qdg :: .n qeb :: .g pk :: .n p2 :: .n qah :: .g w2 :: [] => glaw19_BarsTrue_l1 qe qg qv qi qh qk qt fuel (fun q0r qun qp9 qow qnq qom qpm qm7 qnc qmc qqi qpi qo4 qqk qpf qol qnk qmf qm0 qn0 qvo qu6 qrj qsw qub qt1 qr4 qsl qta => K (Ex.ret) (Xlaw19_BarsTrue_1_0 q0r qun qp9 qow qnq qom qpm qm7 qnc qmc qqi qpi qo4 qqk qpf qol qnk qmf qm0 qn0 qvo qu6 qrj qsw qub qt1 qr4 qsl qta)) (fun qzs qvv qq4 qpw qoq qmd qm6 qnt qmv qqr qn3 qpy qqg qqf qpb qpd qq5 qnp qp4 qqt qvs qst quf qsj qt0 qrv qt3 qrm qus qvt qvd qti qul qty qt8 qui qtj qrd qrp qmy => K (Ex.ret) (Xlaw19_BarsTrue_1_1 qzs qvv qq4 qpw qoq qmd qm6 qnt qmv qqr qn3 qpy qqg qqf qpb qpd qq5 qnp qp4 qqt qvs qst quf qsj qt0 qrv qt3 qrm qus qvt qvd qti qul qty qt8 qui qtj qrd qrp qmy)) (fun qzy qrr qn8 qqa qoa qm5 qqp qof qnn qn1 qo0 qqb qok qqh qme qn5 qnj qps qpv qqn qsf qu5 qs8 qsb qs3 qvq qtt qss qro qu7 qru qsh quc qvu qvm qu3 qs9 qtv qr5 qqv qyi qsz qth qs2 qw5 qxp quq qr8 qsa qyc qwu qrz qs5 qsc qw6 qxb qr2 qve qrq qyd => K (Ex.ret) (Xlaw19_BarsTrue_1_2 qzy qrr qn8 qqa qoa qm5 qqp qof qnn qn1 qo0 qqb qok qqh qme qn5 qnj qps qpv qqn qsf qu5 qs8 qsb qs3 qvq qtt qss qro qu7 qru qsh quc qvu qvm qu3 qs9 qtv qr5 qqv qyi qsz qth qs2 qw5 qxp quq qr8 qsa qyc qwu qrz qs5 qsc qw6 qxb qr2 qve qrq qyd)) (fun qxm qym qws qy0 qvy qpg qmb qms qqq qm8 qnv qqc qma qn4 ql8 qo3 qp0 qnw qpx qo5 qmz qm2 qpa => K (Ex.exit 0) (Xlaw19_BarsTrue_1_3 qxm qym qws qy0 qvy qpg qmb qms qqq qm8 qnv qqc qma qn4 ql8 qo3 qp0 qnw qpx qo5 qmz qm2 qpa)) fuel qhy qhz qhv at6 ui7 vx wt wu wv px pv py qaf p9 qab qae qad qag qdg qeb pk p2 qah w2
  | _ => none
noncomputable def Llaw19_BarsTrue (qe qg : Mo) (qv qi : Mo) (qh qk qt : Mo) (fuel : Nat) : Lam AV := [(26328072917139296674479506920917445820446944636773886235567972420,lam Tlaw19_BarsTrue_0 (Flaw19_BarsTrue_0 qe qg qv qi qh qk qt fuel)),(26328072917139296674479506920917608079723773850137277813309833156,lam Tlaw19_BarsTrue_1 (Flaw19_BarsTrue_1 qe qg qv qi qh qk qt fuel))]
noncomputable def Glaw19_BarsTrue (qe qg : Mo) (qv qi : Mo) (qh qk qt : Mo) : Gam := [(5,smM [RS.agg [LK.l (nat_lit 4),LK.l (nat_lit 9)]] qe),(6,smM [RS.one (LK.l (nat_lit 11)),RS.one (LK.i .i64)] qg),(7,smM [RS.agg [LK.b,LK.l (nat_lit 1),LK.i .i64],RS.agg [LK.b,LK.l (nat_lit 1),LK.i .i64]] qv),(9,smM [RS.agg [LK.b,LK.l (nat_lit 1),LK.i .i64]] qi),(8,smM [RS.agg [LK.b,LK.l (nat_lit 1),LK.i .i64]] qh),(10,smM [RS.one (LK.i .i64)] qk),(11,smM [RS.one LK.b] qt)]
theorem glaw19_BarsTrue_l0_eq (qe qg : Mo) (qv qi : Mo) (qh qk qt : Mo) (fuel : Nat) (kn : St → Option AV) (K : Ex → St → Option AV) (pg qcx : Nat) (ww : Ge) (qbn qie : Int) (qhc ym : Int) (wq wp : Nat) (wr : Ge) (vg vk : Nat) (vf : Ge) (vm vh : Nat) (vj : Ge) (vn vl : Nat) (vi : Ge) (qaz qay : Nat) (qa0 : Ge) (qax qav : Nat) (qaw : Ge) (qce : ByteArray) (qb4 qcc qb5 : Int) (qca qb0 : Bool) (qb2 qcf qb1 : Option Nat) (qo1 qv8 : Int) (w1 qhh : Int) :
    bX Pr (Glaw19_BarsTrue qe qg qv qi qh qk qt) (Llaw19_BarsTrue qe qg qv qi qh qk qt fuel) 6 3 1 fuel (Slaw19_BarsTrue_0 pg qcx ww w1 qbn qie qhc qhh ym wq wp wr vg vk vf vm vh vj vn vl vi qaz qay qa0 qax qav qaw qce qb4 qcc qb5 qca qb0 qb2 qcf qb1) (fun e s => match e with | .normal => kn (hX Pr 3 1 (Slaw19_BarsTrue_0 pg qcx ww qo1 qbn qie qhc qv8 ym wq wp wr vg vk vf vm vh vj vn vl vi qaz qay qa0 qax qav qaw qce qb4 qcc qb5 qca qb0 qb2 qcf qb1) s) | e => K e s) =
    glaw19_BarsTrue_l0_step qe qg qv qi qh qk qt fuel (fun w1 qhh => kn (Slaw19_BarsTrue_0 pg qcx ww w1 qbn qie qhc qhh ym wq wp wr vg vk vf vm vh vj vn vl vi qaz qay qa0 qax qav qaw qce qb4 qcc qb5 qca qb0 qb2 qcf qb1)) (fun xu2 zk wg wh wf zq zm zt zl zr zo zv zp zu yg ye yb vq vp vr yt yo yr yq pb pa pc y9 pe => K (Ex.ret) (Xlaw19_BarsTrue_0_0 xu2 zk wg wh wf zq zm zt zl zr zo zv zp zu yg ye yb vq vp vr yt yo yr yq pb pa pc y9 pe)) (fun xu2 zk wg wh wf zq zm zt zl zr zo zv zp zu yg ye yb vq vp vr yt yo yr yq pb pa pc y9 pe qdx qdv qdw qdy qdu qd0 qd2 qdz qdt qd1 qbr => K (Ex.ret) (Xlaw19_BarsTrue_0_1 xu2 zk wg wh wf zq zm zt zl zr zo zv zp zu yg ye yb vq vp vr yt yo yr yq pb pa pc y9 pe qdx qdv qdw qdy qdu qd0 qd2 qdz qdt qd1 qbr)) (fun xu2 zk wg wh wf zq zm zt zl zr zo zv zp zu yg ye yb vq vp vr yt yo yr yq pb pa pc y9 pe qdx qdv qdw qdy qdu qd0 qd2 qdz qdt qd1 qbr qiy qgz qg0 qgf qiz qi0 qgk qg1 qgg qi2 qfz qgt qg5 qf6 qfv qcn qgr qf9 qgn qcm => K (Ex.ret) (Xlaw19_BarsTrue_0_2 xu2 zk wg wh wf zq zm zt zl zr zo zv zp zu yg ye yb vq vp vr yt yo yr yq pb pa pc y9 pe qdx qdv qdw qdy qdu qd0 qd2 qdz qdt qd1 qbr qiy qgz qg0 qgf qiz qi0 qgk qg1 qgg qi2 qfz qgt qg5 qf6 qfv qcn qgr qf9 qgn qcm)) (fun qi6 qiw qi1 qmr q0j zk wg wh wf zq zm zt zl zr zo zv zp zu yg ye yb vq vp vr yt yo yr yq pb pa pc y9 pe => K (Ex.exit 2) (Xlaw19_BarsTrue_0_3 qi6 qiw qi1 qmr q0j zk wg wh wf zq zm zt zl zr zo zv zp zu yg ye yb vq vp vr yt yo yr yq pb pa pc y9 pe)) pg qcx ww qbn qie qhc ym wq wp wr vg vk vf vm vh vj vn vl vi qaz qay qa0 qax qav qaw qce qb4 qcc qb5 qca qb0 qb2 qcf qb1 w1 qhh := by kernel_rfl
theorem glaw19_BarsTrue_l0_ok (qe qg : Mo) (qv qi : Mo) (qh qk qt : Mo) (fuel : Nat) (K : Ex → St → Option AV) (pg qcx : Nat) (ww : Ge) (qbn qie : Int) (qhc ym : Int) (wq wp : Nat) (wr : Ge) (vg vk : Nat) (vf : Ge) (vm vh : Nat) (vj : Ge) (vn vl : Nat) (vi : Ge) (qaz qay : Nat) (qa0 : Ge) (qax qav : Nat) (qaw : Ge) (qce : ByteArray) (qb4 qcc qb5 : Int) (qca qb0 : Bool) (qb2 qcf qb1 : Option Nat) (qo1 qv8 : Int) : ∀ (n' : Nat) (w1 qhh : Int),
    loopK (bX Pr (Glaw19_BarsTrue qe qg qv qi qh qk qt) (Llaw19_BarsTrue qe qg qv qi qh qk qt fuel) 6 3 1 fuel) (hX Pr 3 1 (Slaw19_BarsTrue_0 pg qcx ww qo1 qbn qie qhc qv8 ym wq wp wr vg vk vf vm vh vj vn vl vi qaz qay qa0 qax qav qaw qce qb4 qcc qb5 qca qb0 qb2 qcf qb1)) n' (Slaw19_BarsTrue_0 pg qcx ww w1 qbn qie qhc qhh ym wq wp wr vg vk vf vm vh vj vn vl vi qaz qay qa0 qax qav qaw qce qb4 qcc qb5 qca qb0 qb2 qcf qb1) K = glaw19_BarsTrue_l0 qe qg qv qi qh qk qt fuel (fun xu2 zk wg wh wf zq zm zt zl zr zo zv zp zu yg ye yb vq vp vr yt yo yr yq pb pa pc y9 pe => K (Ex.ret) (Xlaw19_BarsTrue_0_0 xu2 zk wg wh wf zq zm zt zl zr zo zv zp zu yg ye yb vq vp vr yt yo yr yq pb pa pc y9 pe)) (fun xu2 zk wg wh wf zq zm zt zl zr zo zv zp zu yg ye yb vq vp vr yt yo yr yq pb pa pc y9 pe qdx qdv qdw qdy qdu qd0 qd2 qdz qdt qd1 qbr => K (Ex.ret) (Xlaw19_BarsTrue_0_1 xu2 zk wg wh wf zq zm zt zl zr zo zv zp zu yg ye yb vq vp vr yt yo yr yq pb pa pc y9 pe qdx qdv qdw qdy qdu qd0 qd2 qdz qdt qd1 qbr)) (fun xu2 zk wg wh wf zq zm zt zl zr zo zv zp zu yg ye yb vq vp vr yt yo yr yq pb pa pc y9 pe qdx qdv qdw qdy qdu qd0 qd2 qdz qdt qd1 qbr qiy qgz qg0 qgf qiz qi0 qgk qg1 qgg qi2 qfz qgt qg5 qf6 qfv qcn qgr qf9 qgn qcm => K (Ex.ret) (Xlaw19_BarsTrue_0_2 xu2 zk wg wh wf zq zm zt zl zr zo zv zp zu yg ye yb vq vp vr yt yo yr yq pb pa pc y9 pe qdx qdv qdw qdy qdu qd0 qd2 qdz qdt qd1 qbr qiy qgz qg0 qgf qiz qi0 qgk qg1 qgg qi2 qfz qgt qg5 qf6 qfv qcn qgr qf9 qgn qcm)) (fun qi6 qiw qi1 qmr q0j zk wg wh wf zq zm zt zl zr zo zv zp zu yg ye yb vq vp vr yt yo yr yq pb pa pc y9 pe => K (Ex.exit 2) (Xlaw19_BarsTrue_0_3 qi6 qiw qi1 qmr q0j zk wg wh wf zq zm zt zl zr zo zv zp zu yg ye yb vq vp vr yt yo yr yq pb pa pc y9 pe)) pg qcx ww qbn qie qhc ym wq wp wr vg vk vf vm vh vj vn vl vi qaz qay qa0 qax qav qaw qce qb4 qcc qb5 qca qb0 qb2 qcf qb1 n' w1 qhh
  | 0,_,_ => rfl
  | n' + 1,w1,qhh => (glaw19_BarsTrue_l0_eq qe qg qv qi qh qk qt fuel (fun s => loopK (bX Pr (Glaw19_BarsTrue qe qg qv qi qh qk qt) (Llaw19_BarsTrue qe qg qv qi qh qk qt fuel) 6 3 1 fuel) (hX Pr 3 1 (Slaw19_BarsTrue_0 pg qcx ww qo1 qbn qie qhc qv8 ym wq wp wr vg vk vf vm vh vj vn vl vi qaz qay qa0 qax qav qaw qce qb4 qcc qb5 qca qb0 qb2 qcf qb1)) n' s K) K pg qcx ww qbn qie qhc ym wq wp wr vg vk vf vm vh vj vn vl vi qaz qay qa0 qax qav qaw qce qb4 qcc qb5 qca qb0 qb2 qcf qb1 qo1 qv8 w1 qhh).trans
    (congrArg (fun kn => glaw19_BarsTrue_l0_step qe qg qv qi qh qk qt fuel kn _ _ _ _ pg qcx ww qbn qie qhc ym wq wp wr vg vk vf vm vh vj vn vl vi qaz qay qa0 qax qav qaw qce qb4 qcc qb5 qca qb0 qb2 qcf qb1 w1 qhh) (funext fun w1 => funext fun qhh => glaw19_BarsTrue_l0_ok qe qg qv qi qh qk qt fuel K pg qcx ww qbn qie qhc ym wq wp wr vg vk vf vm vh vj vn vl vi qaz qay qa0 qax qav qaw qce qb4 qcc qb5 qca qb0 qb2 qcf qb1 qo1 qv8 n' w1 qhh))
theorem glaw19_BarsTrue_L0 (qe qg : Mo) (qv qi : Mo) (qh qk qt : Mo) (fuel : Nat) : LX Pr (Glaw19_BarsTrue qe qg qv qi qh qk qt) (Llaw19_BarsTrue qe qg qv qi qh qk qt fuel) 6 3 1 fuel := by
  refine .of Tlaw19_BarsTrue_0 (Flaw19_BarsTrue_0 qe qg qv qi qh qk qt fuel) (fun L h => ?_) (fun ps st K r he hr => ?_)
  · have e : (Llaw19_BarsTrue qe qg qv qi qh qk qt fuel).get (writes (lp Pr 3 1).1) = some (lam Tlaw19_BarsTrue_0 (Flaw19_BarsTrue_0 qe qg qv qi qh qk qt fuel)) := by kernel_rfl
    exact (Option.some.inj (e.symm.trans h)).symm
  · unfold Flaw19_BarsTrue_0 at hr
    split at hr
    · obtain rfl := (Option.some.inj he).symm
      exact (glaw19_BarsTrue_l0_ok qe qg qv qi qh qk qt fuel K _ _ _ _ _ _ _ _ _ _ _ _ _ _ _ _ _ _ _ _ _ _ _ _ _ _ _ _ _ _ _ _ _ _ _ _ fuel _ _).trans hr
    · cases hr
theorem glaw19_BarsTrue_l1_eq (qe qg : Mo) (qv qi : Mo) (qh qk qt : Mo) (fuel : Nat) (kn : St → Option AV) (K : Ex → St → Option AV) (qwf qv4 : Nat) (qv9 : Ge) (q2e qp3 qit : Int) (qdl qdb : Nat) (qdn : Ge) (qf8 qgv : Nat) (qgs : Ge) (qf5 qg6 : Nat) (qgh : Ge) (qgc qf7 : Nat) (qgq : Ge) (qpt qqm : Nat) (qo2 : Ge) (qgo qg4 : Nat) (qgm : Ge) (qhy qhz : Nat) (qhv : Ge) (at6 ui7 vx : Int) (wt wu : Nat) (wv : Ge) (px pv : Nat) (py : Ge) (qaf p9 : Nat) (qab : Ge) (qae qad : Nat) (qag : Ge) (qdg qeb : Nat) (pk : Ge) (p2 qah : Nat) (w2 : Ge) :
    bX Pr (Glaw19_BarsTrue qe qg qv qi qh qk qt) (Llaw19_BarsTrue qe qg qv qi qh qk qt fuel) 6 3 0 fuel (Slaw19_BarsTrue_1 qhy qhz qhv at6 ui7 vx wt wu wv px pv py qaf p9 qab qae qad qag qdg qeb pk p2 qah w2) (fun e s => match e with | .normal => kn (hX Pr 3 0 (Slaw19_BarsTrue_1 qwf qv4 qv9 q2e qp3 qit qdl qdb qdn qf8 qgv qgs qf5 qg6 qgh qgc qf7 qgq qpt qqm qo2 qgo qg4 qgm) s) | e => K e s) =
    glaw19_BarsTrue_l1_step qe qg qv qi qh qk qt fuel (fun qhy qhz qhv at6 ui7 vx wt wu wv px pv py qaf p9 qab qae qad qag qdg qeb pk p2 qah w2 => kn (Slaw19_BarsTrue_1 qhy qhz qhv at6 ui7 vx wt wu wv px pv py qaf p9 qab qae qad qag qdg qeb pk p2 qah w2)) (fun xu2 zk wg wh wf zq zm zt zl zr zo zv zp zu yg ye yb vq vp vr yt yo yr yq pb pa pc y9 pe => K (Ex.ret) (Xlaw19_BarsTrue_1_0 xu2 zk wg wh wf zq zm zt zl zr zo zv zp zu yg ye yb vq vp vr yt yo yr yq pb pa pc y9 pe)) (fun xu2 zk wg wh wf zq zm zt zl zr zo zv zp zu yg ye yb vq vp vr yt yo yr yq pb pa pc y9 pe qdx qdv qdw qdy qdu qd0 qd2 qdz qdt qd1 qbr => K (Ex.ret) (Xlaw19_BarsTrue_1_1 xu2 zk wg wh wf zq zm zt zl zr zo zv zp zu yg ye yb vq vp vr yt yo yr yq pb pa pc y9 pe qdx qdv qdw qdy qdu qd0 qd2 qdz qdt qd1 qbr)) (fun xu2 zk wg wh wf zq zm zt zl zr zo zv zp zu yg ye yb vq vp vr yt yo yr yq pb pa pc y9 pe qdx qdv qdw qdy qdu qd0 qd2 qdz qdt qd1 qbr qiy qgz qg0 qgf qiz qi0 qgk qg1 qgg qi2 qfz qgt qg5 qf6 qfv qcn qgr qf9 qgn qcm => K (Ex.ret) (Xlaw19_BarsTrue_1_2 xu2 zk wg wh wf zq zm zt zl zr zo zv zp zu yg ye yb vq vp vr yt yo yr yq pb pa pc y9 pe qdx qdv qdw qdy qdu qd0 qd2 qdz qdt qd1 qbr qiy qgz qg0 qgf qiz qi0 qgk qg1 qgg qi2 qfz qgt qg5 qf6 qfv qcn qgr qf9 qgn qcm)) (fun qi6 qiw qi1 qmr zk wg wh wf zq zm zt zl zr zo zv zp zu yg ye yb vq vp vr => K (Ex.exit 0) (Xlaw19_BarsTrue_1_3 qi6 qiw qi1 qmr zk wg wh wf zq zm zt zl zr zo zv zp zu yg ye yb vq vp vr)) qhy qhz qhv at6 ui7 vx wt wu wv px pv py qaf p9 qab qae qad qag qdg qeb pk p2 qah w2 := by kernel_rfl
theorem glaw19_BarsTrue_l1_ok (qe qg : Mo) (qv qi : Mo) (qh qk qt : Mo) (fuel : Nat) (K : Ex → St → Option AV) (qwf qv4 : Nat) (qv9 : Ge) (q2e qp3 qit : Int) (qdl qdb : Nat) (qdn : Ge) (qf8 qgv : Nat) (qgs : Ge) (qf5 qg6 : Nat) (qgh : Ge) (qgc qf7 : Nat) (qgq : Ge) (qpt qqm : Nat) (qo2 : Ge) (qgo qg4 : Nat) (qgm : Ge) : ∀ (n' qhy qhz : Nat) (qhv : Ge) (at6 ui7 vx : Int) (wt wu : Nat) (wv : Ge) (px pv : Nat) (py : Ge) (qaf p9 : Nat) (qab : Ge) (qae qad : Nat) (qag : Ge) (qdg qeb : Nat) (pk : Ge) (p2 qah : Nat) (w2 : Ge),
    loopK (bX Pr (Glaw19_BarsTrue qe qg qv qi qh qk qt) (Llaw19_BarsTrue qe qg qv qi qh qk qt fuel) 6 3 0 fuel) (hX Pr 3 0 (Slaw19_BarsTrue_1 qwf qv4 qv9 q2e qp3 qit qdl qdb qdn qf8 qgv qgs qf5 qg6 qgh qgc qf7 qgq qpt qqm qo2 qgo qg4 qgm)) n' (Slaw19_BarsTrue_1 qhy qhz qhv at6 ui7 vx wt wu wv px pv py qaf p9 qab qae qad qag qdg qeb pk p2 qah w2) K = glaw19_BarsTrue_l1 qe qg qv qi qh qk qt fuel (fun xu2 zk wg wh wf zq zm zt zl zr zo zv zp zu yg ye yb vq vp vr yt yo yr yq pb pa pc y9 pe => K (Ex.ret) (Xlaw19_BarsTrue_1_0 xu2 zk wg wh wf zq zm zt zl zr zo zv zp zu yg ye yb vq vp vr yt yo yr yq pb pa pc y9 pe)) (fun xu2 zk wg wh wf zq zm zt zl zr zo zv zp zu yg ye yb vq vp vr yt yo yr yq pb pa pc y9 pe qdx qdv qdw qdy qdu qd0 qd2 qdz qdt qd1 qbr => K (Ex.ret) (Xlaw19_BarsTrue_1_1 xu2 zk wg wh wf zq zm zt zl zr zo zv zp zu yg ye yb vq vp vr yt yo yr yq pb pa pc y9 pe qdx qdv qdw qdy qdu qd0 qd2 qdz qdt qd1 qbr)) (fun xu2 zk wg wh wf zq zm zt zl zr zo zv zp zu yg ye yb vq vp vr yt yo yr yq pb pa pc y9 pe qdx qdv qdw qdy qdu qd0 qd2 qdz qdt qd1 qbr qiy qgz qg0 qgf qiz qi0 qgk qg1 qgg qi2 qfz qgt qg5 qf6 qfv qcn qgr qf9 qgn qcm => K (Ex.ret) (Xlaw19_BarsTrue_1_2 xu2 zk wg wh wf zq zm zt zl zr zo zv zp zu yg ye yb vq vp vr yt yo yr yq pb pa pc y9 pe qdx qdv qdw qdy qdu qd0 qd2 qdz qdt qd1 qbr qiy qgz qg0 qgf qiz qi0 qgk qg1 qgg qi2 qfz qgt qg5 qf6 qfv qcn qgr qf9 qgn qcm)) (fun qi6 qiw qi1 qmr zk wg wh wf zq zm zt zl zr zo zv zp zu yg ye yb vq vp vr => K (Ex.exit 0) (Xlaw19_BarsTrue_1_3 qi6 qiw qi1 qmr zk wg wh wf zq zm zt zl zr zo zv zp zu yg ye yb vq vp vr)) n' qhy qhz qhv at6 ui7 vx wt wu wv px pv py qaf p9 qab qae qad qag qdg qeb pk p2 qah w2
  | 0,_,_,_,_,_,_,_,_,_,_,_,_,_,_,_,_,_,_,_,_,_,_,_,_ => rfl
  | n' + 1,qhy,qhz,qhv,at6,ui7,vx,wt,wu,wv,px,pv,py,qaf,p9,qab,qae,qad,qag,qdg,qeb,pk,p2,qah,w2 => (glaw19_BarsTrue_l1_eq qe qg qv qi qh qk qt fuel (fun s => loopK (bX Pr (Glaw19_BarsTrue qe qg qv qi qh qk qt) (Llaw19_BarsTrue qe qg qv qi qh qk qt fuel) 6 3 0 fuel) (hX Pr 3 0 (Slaw19_BarsTrue_1 qwf qv4 qv9 q2e qp3 qit qdl qdb qdn qf8 qgv qgs qf5 qg6 qgh qgc qf7 qgq qpt qqm qo2 qgo qg4 qgm)) n' s K) K qwf qv4 qv9 q2e qp3 qit qdl qdb qdn qf8 qgv qgs qf5 qg6 qgh qgc qf7 qgq qpt qqm qo2 qgo qg4 qgm qhy qhz qhv at6 ui7 vx wt wu wv px pv py qaf p9 qab qae qad qag qdg qeb pk p2 qah w2).trans
    (congrArg (fun kn => glaw19_BarsTrue_l1_step qe qg qv qi qh qk qt fuel kn _ _ _ _ qhy qhz qhv at6 ui7 vx wt wu wv px pv py qaf p9 qab qae qad qag qdg qeb pk p2 qah w2) (funext fun qhy => funext fun qhz => funext fun qhv => funext fun at6 => funext fun ui7 => funext fun vx => funext fun wt => funext fun wu => funext fun wv => funext fun px => funext fun pv => funext fun py => funext fun qaf => funext fun p9 => funext fun qab => funext fun qae => funext fun qad => funext fun qag => funext fun qdg => funext fun qeb => funext fun pk => funext fun p2 => funext fun qah => funext fun w2 => glaw19_BarsTrue_l1_ok qe qg qv qi qh qk qt fuel K qwf qv4 qv9 q2e qp3 qit qdl qdb qdn qf8 qgv qgs qf5 qg6 qgh qgc qf7 qgq qpt qqm qo2 qgo qg4 qgm n' qhy qhz qhv at6 ui7 vx wt wu wv px pv py qaf p9 qab qae qad qag qdg qeb pk p2 qah w2))
termination_by structural k => k
theorem glaw19_BarsTrue_L1 (qe qg : Mo) (qv qi : Mo) (qh qk qt : Mo) (fuel : Nat) : LX Pr (Glaw19_BarsTrue qe qg qv qi qh qk qt) (Llaw19_BarsTrue qe qg qv qi qh qk qt fuel) 6 3 0 fuel := by
  refine .of Tlaw19_BarsTrue_1 (Flaw19_BarsTrue_1 qe qg qv qi qh qk qt fuel) (fun L h => ?_) (fun ps st K r he hr => ?_)
  · have e : (Llaw19_BarsTrue qe qg qv qi qh qk qt fuel).get (writes (lp Pr 3 0).1) = some (lam Tlaw19_BarsTrue_1 (Flaw19_BarsTrue_1 qe qg qv qi qh qk qt fuel)) := by kernel_rfl
    exact (Option.some.inj (e.symm.trans h)).symm
  · unfold Flaw19_BarsTrue_1 at hr
    split at hr
    · obtain rfl := (Option.some.inj he).symm
      exact (glaw19_BarsTrue_l1_ok qe qg qv qi qh qk qt fuel K _ _ _ _ _ _ _ _ _ _ _ _ _ _ _ _ _ _ _ _ _ _ _ _ fuel _ _ _ _ _ _ _ _ _ _ _ _ _ _ _ _ _ _ _ _ _ _ _ _).trans hr
    · cases hr
noncomputable def glaw19_BarsTrue (qe qg : Mo) (qv qi : Mo) (qh qk qt : Mo) (fuel : Nat) (qbm : Int) (qfq qfy : Nat) (qf0 : Ge) (qfw qft : Nat) (qf2 : Ge) (qfu qfr : Nat) (qfj : Ge) (qfm qfh : Nat) (qf1 : Ge) : Option AV :=
  let r0 : Option AV := qe [AV.agg [AV.int .i64 qbm,AV.ro 1 qfq qfy qf0,AV.ro 1 qfw qft qf2,AV.ro 1 qfu qfr qfj,AV.ro 1 qfm qfh qf1]]; ck (okM [RS.agg [LK.l 4,LK.l 9]] r0) <| let r1 : Option AV := qg [AV.agg [AV.ro 4 (toN ((toC (getV r0)).headD .dead)) (toR ((toC (getV r0)).headD .dead)) (toG ((toC (getV r0)).headD .dead)),AV.ro 9 (toN ((toC (getV r0)).tail.headD .dead)) (toR ((toC (getV r0)).tail.headD .dead)) (toG ((toC (getV r0)).tail.headD .dead))]]; ck (okM [RS.one (LK.l 11),RS.one (LK.i .i64)] r1) <| bif toI ((toT (getV r1)).tail.headD .dead) != 0 then some (AV.bool false)
  else glaw19_BarsTrue_l1 qe qg qv qi qh qk qt fuel
    (fun (waz : Bool) (_ : Int) (_ _ : Nat) (_ : Ge) (_ _ : Nat) (_ : Ge) (_ _ : Nat) (_ : Ge) (_ _ : Nat) (_ : Ge) (_ _ : Nat) (_ : Ge) (_ _ : Nat) (_ : Ge) (_ : ByteArray) (_ _ _ : Int) (_ _ : Bool) (_ _ _ : Option Nat) => some (AV.bool waz))
    (fun (wan : Bool) (_ : Int) (_ _ : Nat) (_ : Ge) (_ _ : Nat) (_ : Ge) (_ _ : Nat) (_ : Ge) (_ _ : Nat) (_ : Ge) (_ _ : Nat) (_ : Ge) (_ _ : Nat) (_ : Ge) (_ : ByteArray) (_ _ _ : Int) (_ _ : Bool) (_ _ _ : Option Nat) (_ _ : Int) (_ _ : Int) (_ _ : Int) (_ _ : Int) (_ _ _ : Option Nat) => some (AV.bool wan))
    (fun (waj : Bool) (_ : Int) (_ _ : Nat) (_ : Ge) (_ _ : Nat) (_ : Ge) (_ _ : Nat) (_ : Ge) (_ _ : Nat) (_ : Ge) (_ _ : Nat) (_ : Ge) (_ _ : Nat) (_ : Ge) (_ : ByteArray) (_ _ _ : Int) (_ _ : Bool) (_ _ _ : Option Nat) (_ _ : Int) (_ _ : Int) (_ _ : Int) (_ _ : Int) (_ _ _ : Option Nat) (_ : Bool) (_ _ : Nat) (_ : Ge) (_ : Int) (_ : Bool) (_ _ : Nat) (_ : Ge) (_ : Int) (_ : Bool) (_ _ : Nat) (_ : Ge) (_ : Int) (_ : Bool) (_ _ : Nat) (_ : Ge) (_ : Int) => some (AV.bool waj))
    (fun (q0v _ : Nat) (_ : Ge) (q2p _ : Int) (_ _ : Nat) (_ : Ge) (_ _ : Nat) (_ : Ge) (_ _ : Nat) (_ : Ge) (_ _ : Nat) (_ : Ge) (_ _ : Nat) (_ : Ge) (_ _ : Nat) (_ : Ge) => ck (bif q2p == (↑q0v : Int) then okM [RS.one LK.b] (qt []) else true) <| some (AV.bool (bif q2p == (↑q0v : Int) then toB (getV (qt [])) else false))) fuel (toN ((toT (getV r1)).headD .dead)) (toR ((toT (getV r1)).headD .dead)) (toG ((toT (getV r1)).headD .dead)) (0) (0) qbm qfq qfy qf0 qfw qft qf2 qfu qfr qfj qfm qfh qf1 (toN ((toC (getV r0)).headD .dead)) (toR ((toC (getV r0)).headD .dead)) (toG ((toC (getV r0)).headD .dead)) (toN ((toC (getV r0)).tail.headD .dead)) (toR ((toC (getV r0)).tail.headD .dead)) (toG ((toC (getV r0)).tail.headD .dead))
noncomputable def mlaw19_BarsTrue (qe qg : Mo) (qv qi : Mo) (qh qk qt : Mo) (fuel : Nat) (xs : List AV) : Option AV := match xs with
  | [AV.agg [AV.int .i64 qbm,AV.ro 1 qfq qfy qf0,AV.ro 1 qfw qft qf2,AV.ro 1 qfu qfr qfj,AV.ro 1 qfm qfh qf1]] => glaw19_BarsTrue qe qg qv qi qh qk qt fuel qbm qfq qfy qf0 qfw qft qf2 qfu qfr qfj qfm qfh qf1
  | _ => none
abbrev Rlaw19_BarsTrue : List RS := [RS.one LK.b]
theorem glaw19_BarsTrue_sm (qe qg : Mo) (qv qi : Mo) (qh qk qt : Mo) (fuel : Nat) (hΓ : GamOk Pr (Glaw19_BarsTrue qe qg qv qi qh qk qt)) (hP : NamesOk Pr) : SmOk Pr 3 (smM Rlaw19_BarsTrue (mlaw19_BarsTrue qe qg qv qi qh qk qt fuel)) := smL (L := (Llaw19_BarsTrue qe qg qv qi qh qk qt fuel)) (n := 2) hΓ hP (by kernel_rfl) (fun i hi => match i,hi with
  | 1,_ => glaw19_BarsTrue_L0 qe qg qv qi qh qk qt fuel
  | 0,_ => glaw19_BarsTrue_L1 qe qg qv qi qh qk qt fuel
  | i + 2,hi => absurd hi (by omega)) fun xs v h => by
  unfold mlaw19_BarsTrue at h
  split at h
  · exact Eq.trans (by kernel_rfl) h
  · cases h
end Go.Proofs.Tryz
end

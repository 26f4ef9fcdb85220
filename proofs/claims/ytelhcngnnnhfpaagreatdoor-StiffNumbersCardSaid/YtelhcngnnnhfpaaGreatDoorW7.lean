/- Part 7 of the proof: models of the functions, and laws on them. -/
import Derived.Test.YtelhcngnnnhfpaaGreatDoorW6
set_option linter.unusedVariables false
set_option linter.unusedSimpArgs false
set_option linter.unusedSectionVars false
section
namespace Go.Proofs.Tryz
open Go Go.Am
set_option linter.unusedVariables false
set_option maxRecDepth 1000000
noncomputable def LRat_SetFrac_a (ve zt : Mo) (z1 yf : Mo) (fuel : Nat) : Lam AV := []
noncomputable def GRat_SetFrac_a (ve zt : Mo) (z1 yf : Mo) : Gam := [(74,smX RNewInt_a XNewInt_a ve),(87,smX RInt_Set_ii XInt_Set_ii zt),(87,smX RInt_Set_ir XInt_Set_ir z1),(131,smX RRat_norm_a XRat_norm_a yf)]
noncomputable def gRat_SetFrac_a (ve zt : Mo) (z1 yf : Mo) (fuel : Nat) (wh : Bool) (qr qz : Nat) (qy : Ge) (z8 : Bool) (zu zz : Nat) (zw : Ge) (z4 : Bool) (w5 zl : Nat) (zm : Ge) (v9 : Bool) (z7 vf : Nat) (vg : Ge) : Option AV :=
  bif (↑z7 : Int) == 0 then let r0 : Option AV := ve [AV.int .i64 1]; ck (okX [RS.one LK.b,RS.one (LK.l 1)] r0) <| bif (↑(toN ((toT (getV r0)).tail.headD .dead)) : Int) == 0 then let r1 : Option AV := ve [AV.int .i64 1]; ck (okX [RS.one LK.b,RS.one (LK.l 1)] r1) <| bif (↑(toN ((toT (getV r1)).tail.headD .dead)) : Int) == 0 then ck (okX [RS.one LK.b,RS.one (LK.l 1)] r1) <| none
      else let r2 : Option AV := zt [AV.ptr (xidx [Blk.box [AV.bool wh,AV.ro 1 qr qz qy,AV.bool z8,AV.ro 1 zu zz zw],Blk.box [AV.bool z4,AV.ro 1 w5 zl zm],Blk.box [AV.bool v9,AV.ro 1 z7 vf vg],Blk.box [AV.bool false,AV.nils 1 [AV.int .u32 0]],Blk.box [AV.bool (toB ((toT (getV r0)).headD .dead)),AV.ro 1 (toN ((toT (getV r0)).tail.headD .dead)) (toR ((toT (getV r0)).tail.headD .dead)) (toG ((toT (getV r0)).tail.headD .dead))],Blk.box [AV.bool false,AV.nils 1 [AV.int .u32 0]],Blk.box [AV.bool (toB ((toT (getV r1)).headD .dead)),AV.ro 1 (toN ((toT (getV r1)).tail.headD .dead)) (toR ((toT (getV r1)).tail.headD .dead)) (toG ((toT (getV r1)).tail.headD .dead))]].length (xtoks [AV.ptr [Blk.box [AV.bool wh,AV.ro 1 qr qz qy,AV.bool z8,AV.ro 1 zu zz zw],Blk.box [AV.bool z4,AV.ro 1 w5 zl zm],Blk.box [AV.bool v9,AV.ro 1 z7 vf vg],Blk.box [AV.bool false,AV.nils 1 [AV.int .u32 0]],Blk.box [AV.bool (toB ((toT (getV r0)).headD .dead)),AV.ro 1 (toN ((toT (getV r0)).tail.headD .dead)) (toR ((toT (getV r0)).tail.headD .dead)) (toG ((toT (getV r0)).tail.headD .dead))],Blk.box [AV.bool false,AV.nils 1 [AV.int .u32 0]],Blk.box [AV.bool (toB ((toT (getV r1)).headD .dead)),AV.ro 1 (toN ((toT (getV r1)).tail.headD .dead)) (toR ((toT (getV r1)).tail.headD .dead)) (toG ((toT (getV r1)).tail.headD .dead))]].length 0,AV.ptr [Blk.box [AV.bool wh,AV.ro 1 qr qz qy,AV.bool z8,AV.ro 1 zu zz zw],Blk.box [AV.bool z4,AV.ro 1 w5 zl zm],Blk.box [AV.bool v9,AV.ro 1 z7 vf vg],Blk.box [AV.bool false,AV.nils 1 [AV.int .u32 0]],Blk.box [AV.bool (toB ((toT (getV r0)).headD .dead)),AV.ro 1 (toN ((toT (getV r0)).tail.headD .dead)) (toR ((toT (getV r0)).tail.headD .dead)) (toG ((toT (getV r0)).tail.headD .dead))]].length 0] [])) 0,AV.ptr (xidx [Blk.box [AV.bool wh,AV.ro 1 qr qz qy,AV.bool z8,AV.ro 1 zu zz zw],Blk.box [AV.bool z4,AV.ro 1 w5 zl zm],Blk.box [AV.bool v9,AV.ro 1 z7 vf vg],Blk.box [AV.bool false,AV.nils 1 [AV.int .u32 0]],Blk.box [AV.bool (toB ((toT (getV r0)).headD .dead)),AV.ro 1 (toN ((toT (getV r0)).tail.headD .dead)) (toR ((toT (getV r0)).tail.headD .dead)) (toG ((toT (getV r0)).tail.headD .dead))]].length (xtoks [AV.ptr [Blk.box [AV.bool wh,AV.ro 1 qr qz qy,AV.bool z8,AV.ro 1 zu zz zw],Blk.box [AV.bool z4,AV.ro 1 w5 zl zm],Blk.box [AV.bool v9,AV.ro 1 z7 vf vg],Blk.box [AV.bool false,AV.nils 1 [AV.int .u32 0]],Blk.box [AV.bool (toB ((toT (getV r0)).headD .dead)),AV.ro 1 (toN ((toT (getV r0)).tail.headD .dead)) (toR ((toT (getV r0)).tail.headD .dead)) (toG ((toT (getV r0)).tail.headD .dead))],Blk.box [AV.bool false,AV.nils 1 [AV.int .u32 0]],Blk.box [AV.bool (toB ((toT (getV r1)).headD .dead)),AV.ro 1 (toN ((toT (getV r1)).tail.headD .dead)) (toR ((toT (getV r1)).tail.headD .dead)) (toG ((toT (getV r1)).tail.headD .dead))]].length 0,AV.ptr [Blk.box [AV.bool wh,AV.ro 1 qr qz qy,AV.bool z8,AV.ro 1 zu zz zw],Blk.box [AV.bool z4,AV.ro 1 w5 zl zm],Blk.box [AV.bool v9,AV.ro 1 z7 vf vg],Blk.box [AV.bool false,AV.nils 1 [AV.int .u32 0]],Blk.box [AV.bool (toB ((toT (getV r0)).headD .dead)),AV.ro 1 (toN ((toT (getV r0)).tail.headD .dead)) (toR ((toT (getV r0)).tail.headD .dead)) (toG ((toT (getV r0)).tail.headD .dead))]].length 0] [])) 0,AV.bool false,AV.ro 1 0 0 fun (x j : Nat) => [AV.int .u32 0].getD j AV.dead,AV.bool false,AV.ro 1 0 0 fun (x j : Nat) => [AV.int .u32 0].getD j AV.dead]; ck (okX [RS.one LK.b,RS.one (LK.l 1),RS.one LK.b,RS.one (LK.l 1)] r2) <| let r3 : Option AV := zt [AV.ptr (xidx [Blk.box [AV.bool wh,AV.ro 1 qr qz qy,AV.bool z8,AV.ro 1 zu zz zw],Blk.box [AV.bool z4,AV.ro 1 w5 zl zm],Blk.box [AV.bool v9,AV.ro 1 z7 vf vg],Blk.box [AV.bool false,AV.nils 1 [AV.int .u32 0]],Blk.box [AV.bool (toB ((toT (getV r0)).headD .dead)),AV.ro 1 (toN ((toT (getV r0)).tail.headD .dead)) (toR ((toT (getV r0)).tail.headD .dead)) (toG ((toT (getV r0)).tail.headD .dead))],Blk.box [AV.bool (toB ((toT (getV r2)).tail.tail.headD .dead)),AV.ro 1 (toN ((toT (getV r2)).tail.tail.tail.headD .dead)) (toR ((toT (getV r2)).tail.tail.tail.headD .dead)) (toG ((toT (getV r2)).tail.tail.tail.headD .dead))],Blk.box [AV.bool (toB ((toT (getV r1)).headD .dead)),AV.ro 1 (toN ((toT (getV r1)).tail.headD .dead)) (toR ((toT (getV r1)).tail.headD .dead)) (toG ((toT (getV r1)).tail.headD .dead))],Blk.box [AV.bool (toB ((toT (getV r2)).headD .dead)),AV.ro 1 (toN ((toT (getV r2)).tail.headD .dead)) (toR ((toT (getV r2)).tail.headD .dead)) (toG ((toT (getV r2)).tail.headD .dead))]].length (xtoks [AV.ptr [Blk.box [AV.bool wh,AV.ro 1 qr qz qy,AV.bool z8,AV.ro 1 zu zz zw],Blk.box [AV.bool z4,AV.ro 1 w5 zl zm],Blk.box [AV.bool v9,AV.ro 1 z7 vf vg],Blk.box [AV.bool false,AV.nils 1 [AV.int .u32 0]],Blk.box [AV.bool (toB ((toT (getV r0)).headD .dead)),AV.ro 1 (toN ((toT (getV r0)).tail.headD .dead)) (toR ((toT (getV r0)).tail.headD .dead)) (toG ((toT (getV r0)).tail.headD .dead))],Blk.box [AV.bool (toB ((toT (getV r2)).tail.tail.headD .dead)),AV.ro 1 (toN ((toT (getV r2)).tail.tail.tail.headD .dead)) (toR ((toT (getV r2)).tail.tail.tail.headD .dead)) (toG ((toT (getV r2)).tail.tail.tail.headD .dead))],Blk.box [AV.bool (toB ((toT (getV r1)).headD .dead)),AV.ro 1 (toN ((toT (getV r1)).tail.headD .dead)) (toR ((toT (getV r1)).tail.headD .dead)) (toG ((toT (getV r1)).tail.headD .dead))],Blk.box [AV.bool (toB ((toT (getV r2)).headD .dead)),AV.ro 1 (toN ((toT (getV r2)).tail.headD .dead)) (toR ((toT (getV r2)).tail.headD .dead)) (toG ((toT (getV r2)).tail.headD .dead))]].length 0,AV.ptr (xren (xtoks [AV.int .i64 1] []) [Blk.box [AV.bool wh,AV.ro 1 qr qz qy,AV.bool z8,AV.ro 1 zu zz zw],Blk.box [AV.bool z4,AV.ro 1 w5 zl zm],Blk.box [AV.bool v9,AV.ro 1 z7 vf vg],Blk.box [AV.bool false,AV.nils 1 [AV.int .u32 0]],Blk.box [AV.bool (toB ((toT (getV r0)).headD .dead)),AV.ro 1 (toN ((toT (getV r0)).tail.headD .dead)) (toR ((toT (getV r0)).tail.headD .dead)) (toG ((toT (getV r0)).tail.headD .dead))],Blk.box [AV.bool false,AV.nils 1 [AV.int .u32 0]]].length 0) 0] [])) 0,AV.ptr (xidx (xren (xtoks [AV.int .i64 1] []) [Blk.box [AV.bool wh,AV.ro 1 qr qz qy,AV.bool z8,AV.ro 1 zu zz zw],Blk.box [AV.bool z4,AV.ro 1 w5 zl zm],Blk.box [AV.bool v9,AV.ro 1 z7 vf vg],Blk.box [AV.bool false,AV.nils 1 [AV.int .u32 0]],Blk.box [AV.bool (toB ((toT (getV r0)).headD .dead)),AV.ro 1 (toN ((toT (getV r0)).tail.headD .dead)) (toR ((toT (getV r0)).tail.headD .dead)) (toG ((toT (getV r0)).tail.headD .dead))],Blk.box [AV.bool false,AV.nils 1 [AV.int .u32 0]]].length 0) (xtoks [AV.ptr [Blk.box [AV.bool wh,AV.ro 1 qr qz qy,AV.bool z8,AV.ro 1 zu zz zw],Blk.box [AV.bool z4,AV.ro 1 w5 zl zm],Blk.box [AV.bool v9,AV.ro 1 z7 vf vg],Blk.box [AV.bool false,AV.nils 1 [AV.int .u32 0]],Blk.box [AV.bool (toB ((toT (getV r0)).headD .dead)),AV.ro 1 (toN ((toT (getV r0)).tail.headD .dead)) (toR ((toT (getV r0)).tail.headD .dead)) (toG ((toT (getV r0)).tail.headD .dead))],Blk.box [AV.bool (toB ((toT (getV r2)).tail.tail.headD .dead)),AV.ro 1 (toN ((toT (getV r2)).tail.tail.tail.headD .dead)) (toR ((toT (getV r2)).tail.tail.tail.headD .dead)) (toG ((toT (getV r2)).tail.tail.tail.headD .dead))],Blk.box [AV.bool (toB ((toT (getV r1)).headD .dead)),AV.ro 1 (toN ((toT (getV r1)).tail.headD .dead)) (toR ((toT (getV r1)).tail.headD .dead)) (toG ((toT (getV r1)).tail.headD .dead))],Blk.box [AV.bool (toB ((toT (getV r2)).headD .dead)),AV.ro 1 (toN ((toT (getV r2)).tail.headD .dead)) (toR ((toT (getV r2)).tail.headD .dead)) (toG ((toT (getV r2)).tail.headD .dead))]].length 0,AV.ptr (xren (xtoks [AV.int .i64 1] []) [Blk.box [AV.bool wh,AV.ro 1 qr qz qy,AV.bool z8,AV.ro 1 zu zz zw],Blk.box [AV.bool z4,AV.ro 1 w5 zl zm],Blk.box [AV.bool v9,AV.ro 1 z7 vf vg],Blk.box [AV.bool false,AV.nils 1 [AV.int .u32 0]],Blk.box [AV.bool (toB ((toT (getV r0)).headD .dead)),AV.ro 1 (toN ((toT (getV r0)).tail.headD .dead)) (toR ((toT (getV r0)).tail.headD .dead)) (toG ((toT (getV r0)).tail.headD .dead))],Blk.box [AV.bool false,AV.nils 1 [AV.int .u32 0]]].length 0) 0] [])) 0,AV.bool false,AV.ro 1 0 0 fun (x j : Nat) => [AV.int .u32 0].getD j AV.dead,AV.bool (toB ((toT (getV r1)).headD .dead)),AV.ro 1 (toN ((toT (getV r1)).tail.headD .dead)) (toR ((toT (getV r1)).tail.headD .dead)) (toG ((toT (getV r1)).tail.headD .dead))]; ck (okX [RS.one LK.b,RS.one (LK.l 1),RS.one LK.b,RS.one (LK.l 1)] r3) <| let r4 : Option AV := yf [AV.ptr (xidx 0 (xtoks [AV.ptr 0 0] [])) 0,AV.bool (toB ((toT (getV r2)).headD .dead)),AV.ro 1 (toN ((toT (getV r2)).tail.headD .dead)) (toR ((toT (getV r2)).tail.headD .dead)) (toG ((toT (getV r2)).tail.headD .dead)),AV.bool (toB ((toT (getV r3)).headD .dead)),AV.ro 1 (toN ((toT (getV r3)).tail.headD .dead)) (toR ((toT (getV r3)).tail.headD .dead)) (toG ((toT (getV r3)).tail.headD .dead))]; ck (okX [RS.one LK.b,RS.one (LK.l 1),RS.one LK.b,RS.one (LK.l 1)] r4) <| some (AV.tup [AV.bool (toB ((toT (getV r4)).headD .dead)),AV.ro 1 (toN ((toT (getV r4)).tail.headD .dead)) (toR ((toT (getV r4)).tail.headD .dead)) (toG ((toT (getV r4)).tail.headD .dead)),AV.bool (toB ((toT (getV r4)).tail.tail.headD .dead)),AV.ro 1 (toN ((toT (getV r4)).tail.tail.tail.headD .dead)) (toR ((toT (getV r4)).tail.tail.tail.headD .dead)) (toG ((toT (getV r4)).tail.tail.tail.headD .dead)),AV.bool z4,AV.ro 1 w5 zl zm,AV.bool v9,AV.ro 1 z7 vf vg])
    else let r5 : Option AV := zt [AV.ptr (xidx [Blk.box [AV.bool wh,AV.ro 1 qr qz qy,AV.bool z8,AV.ro 1 zu zz zw],Blk.box [AV.bool z4,AV.ro 1 w5 zl zm],Blk.box [AV.bool v9,AV.ro 1 z7 vf vg],Blk.box [AV.bool false,AV.nils 1 [AV.int .u32 0]],Blk.box [AV.bool (toB ((toT (getV r0)).headD .dead)),AV.ro 1 (toN ((toT (getV r0)).tail.headD .dead)) (toR ((toT (getV r0)).tail.headD .dead)) (toG ((toT (getV r0)).tail.headD .dead))]].length (xtoks [AV.ptr [Blk.box [AV.bool wh,AV.ro 1 qr qz qy,AV.bool z8,AV.ro 1 zu zz zw],Blk.box [AV.bool z4,AV.ro 1 w5 zl zm],Blk.box [AV.bool v9,AV.ro 1 z7 vf vg],Blk.box [AV.bool false,AV.nils 1 [AV.int .u32 0]],Blk.box [AV.bool (toB ((toT (getV r0)).headD .dead)),AV.ro 1 (toN ((toT (getV r0)).tail.headD .dead)) (toR ((toT (getV r0)).tail.headD .dead)) (toG ((toT (getV r0)).tail.headD .dead))]].length 0,AV.ptr [Blk.box [AV.bool wh,AV.ro 1 qr qz qy,AV.bool z8,AV.ro 1 zu zz zw],Blk.box [AV.bool z4,AV.ro 1 w5 zl zm],Blk.box [AV.bool v9,AV.ro 1 z7 vf vg]].length 0] [])) 0,AV.ptr (xidx [Blk.box [AV.bool wh,AV.ro 1 qr qz qy,AV.bool z8,AV.ro 1 zu zz zw],Blk.box [AV.bool z4,AV.ro 1 w5 zl zm],Blk.box [AV.bool v9,AV.ro 1 z7 vf vg]].length (xtoks [AV.ptr [Blk.box [AV.bool wh,AV.ro 1 qr qz qy,AV.bool z8,AV.ro 1 zu zz zw],Blk.box [AV.bool z4,AV.ro 1 w5 zl zm],Blk.box [AV.bool v9,AV.ro 1 z7 vf vg],Blk.box [AV.bool false,AV.nils 1 [AV.int .u32 0]],Blk.box [AV.bool (toB ((toT (getV r0)).headD .dead)),AV.ro 1 (toN ((toT (getV r0)).tail.headD .dead)) (toR ((toT (getV r0)).tail.headD .dead)) (toG ((toT (getV r0)).tail.headD .dead))]].length 0,AV.ptr [Blk.box [AV.bool wh,AV.ro 1 qr qz qy,AV.bool z8,AV.ro 1 zu zz zw],Blk.box [AV.bool z4,AV.ro 1 w5 zl zm],Blk.box [AV.bool v9,AV.ro 1 z7 vf vg]].length 0] [])) 0,AV.bool false,AV.ro 1 0 0 fun (x j : Nat) => [AV.int .u32 0].getD j AV.dead,AV.bool false,AV.ro 1 0 0 fun (x j : Nat) => [AV.int .u32 0].getD j AV.dead]; ck (okX [RS.one LK.b,RS.one (LK.l 1),RS.one LK.b,RS.one (LK.l 1)] r5) <| let r6 : Option AV := zt [AV.ptr (xidx [Blk.box [AV.bool wh,AV.ro 1 qr qz qy,AV.bool z8,AV.ro 1 zu zz zw],Blk.box [AV.bool z4,AV.ro 1 w5 zl zm],Blk.box [AV.bool v9,AV.ro 1 z7 vf vg],Blk.box [AV.bool (toB ((toT (getV r5)).tail.tail.headD .dead)),AV.ro 1 (toN ((toT (getV r5)).tail.tail.tail.headD .dead)) (toR ((toT (getV r5)).tail.tail.tail.headD .dead)) (toG ((toT (getV r5)).tail.tail.tail.headD .dead))],Blk.box [AV.bool (toB ((toT (getV r0)).headD .dead)),AV.ro 1 (toN ((toT (getV r0)).tail.headD .dead)) (toR ((toT (getV r0)).tail.headD .dead)) (toG ((toT (getV r0)).tail.headD .dead))],Blk.box [AV.bool (toB ((toT (getV r5)).headD .dead)),AV.ro 1 (toN ((toT (getV r5)).tail.headD .dead)) (toR ((toT (getV r5)).tail.headD .dead)) (toG ((toT (getV r5)).tail.headD .dead))]].length (xtoks [AV.ptr [Blk.box [AV.bool wh,AV.ro 1 qr qz qy,AV.bool z8,AV.ro 1 zu zz zw],Blk.box [AV.bool z4,AV.ro 1 w5 zl zm],Blk.box [AV.bool v9,AV.ro 1 z7 vf vg],Blk.box [AV.bool (toB ((toT (getV r5)).tail.tail.headD .dead)),AV.ro 1 (toN ((toT (getV r5)).tail.tail.tail.headD .dead)) (toR ((toT (getV r5)).tail.tail.tail.headD .dead)) (toG ((toT (getV r5)).tail.tail.tail.headD .dead))],Blk.box [AV.bool (toB ((toT (getV r0)).headD .dead)),AV.ro 1 (toN ((toT (getV r0)).tail.headD .dead)) (toR ((toT (getV r0)).tail.headD .dead)) (toG ((toT (getV r0)).tail.headD .dead))],Blk.box [AV.bool (toB ((toT (getV r5)).headD .dead)),AV.ro 1 (toN ((toT (getV r5)).tail.headD .dead)) (toR ((toT (getV r5)).tail.headD .dead)) (toG ((toT (getV r5)).tail.headD .dead))]].length 0,AV.ptr (xren (xtoks [AV.int .i64 1] []) [Blk.box [AV.bool wh,AV.ro 1 qr qz qy,AV.bool z8,AV.ro 1 zu zz zw],Blk.box [AV.bool z4,AV.ro 1 w5 zl zm],Blk.box [AV.bool v9,AV.ro 1 z7 vf vg],Blk.box [AV.bool false,AV.nils 1 [AV.int .u32 0]]].length 0) 0] [])) 0,AV.ptr (xidx (xren (xtoks [AV.int .i64 1] []) [Blk.box [AV.bool wh,AV.ro 1 qr qz qy,AV.bool z8,AV.ro 1 zu zz zw],Blk.box [AV.bool z4,AV.ro 1 w5 zl zm],Blk.box [AV.bool v9,AV.ro 1 z7 vf vg],Blk.box [AV.bool false,AV.nils 1 [AV.int .u32 0]]].length 0) (xtoks [AV.ptr [Blk.box [AV.bool wh,AV.ro 1 qr qz qy,AV.bool z8,AV.ro 1 zu zz zw],Blk.box [AV.bool z4,AV.ro 1 w5 zl zm],Blk.box [AV.bool v9,AV.ro 1 z7 vf vg],Blk.box [AV.bool (toB ((toT (getV r5)).tail.tail.headD .dead)),AV.ro 1 (toN ((toT (getV r5)).tail.tail.tail.headD .dead)) (toR ((toT (getV r5)).tail.tail.tail.headD .dead)) (toG ((toT (getV r5)).tail.tail.tail.headD .dead))],Blk.box [AV.bool (toB ((toT (getV r0)).headD .dead)),AV.ro 1 (toN ((toT (getV r0)).tail.headD .dead)) (toR ((toT (getV r0)).tail.headD .dead)) (toG ((toT (getV r0)).tail.headD .dead))],Blk.box [AV.bool (toB ((toT (getV r5)).headD .dead)),AV.ro 1 (toN ((toT (getV r5)).tail.headD .dead)) (toR ((toT (getV r5)).tail.headD .dead)) (toG ((toT (getV r5)).tail.headD .dead))]].length 0,AV.ptr (xren (xtoks [AV.int .i64 1] []) [Blk.box [AV.bool wh,AV.ro 1 qr qz qy,AV.bool z8,AV.ro 1 zu zz zw],Blk.box [AV.bool z4,AV.ro 1 w5 zl zm],Blk.box [AV.bool v9,AV.ro 1 z7 vf vg],Blk.box [AV.bool false,AV.nils 1 [AV.int .u32 0]]].length 0) 0] [])) 0,AV.bool false,AV.ro 1 0 0 fun (x j : Nat) => [AV.int .u32 0].getD j AV.dead,AV.bool (toB ((toT (getV r0)).headD .dead)),AV.ro 1 (toN ((toT (getV r0)).tail.headD .dead)) (toR ((toT (getV r0)).tail.headD .dead)) (toG ((toT (getV r0)).tail.headD .dead))]; ck (okX [RS.one LK.b,RS.one (LK.l 1),RS.one LK.b,RS.one (LK.l 1)] r6) <| let r7 : Option AV := yf [AV.ptr (xidx 0 (xtoks [AV.ptr 0 0] [])) 0,AV.bool (toB ((toT (getV r5)).headD .dead)),AV.ro 1 (toN ((toT (getV r5)).tail.headD .dead)) (toR ((toT (getV r5)).tail.headD .dead)) (toG ((toT (getV r5)).tail.headD .dead)),AV.bool (toB ((toT (getV r6)).headD .dead)),AV.ro 1 (toN ((toT (getV r6)).tail.headD .dead)) (toR ((toT (getV r6)).tail.headD .dead)) (toG ((toT (getV r6)).tail.headD .dead))]; ck (okX [RS.one LK.b,RS.one (LK.l 1),RS.one LK.b,RS.one (LK.l 1)] r7) <| some (AV.tup [AV.bool (toB ((toT (getV r7)).headD .dead)),AV.ro 1 (toN ((toT (getV r7)).tail.headD .dead)) (toR ((toT (getV r7)).tail.headD .dead)) (toG ((toT (getV r7)).tail.headD .dead)),AV.bool (toB ((toT (getV r7)).tail.tail.headD .dead)),AV.ro 1 (toN ((toT (getV r7)).tail.tail.tail.headD .dead)) (toR ((toT (getV r7)).tail.tail.tail.headD .dead)) (toG ((toT (getV r7)).tail.tail.tail.headD .dead)),AV.bool z4,AV.ro 1 w5 zl zm,AV.bool v9,AV.ro 1 z7 vf vg])
  else let r8 : Option AV := zt [AV.ptr (xidx [Blk.box [AV.bool wh,AV.ro 1 qr qz qy,AV.bool z8,AV.ro 1 zu zz zw],Blk.box [AV.bool z4,AV.ro 1 w5 zl zm],Blk.box [AV.bool v9,AV.ro 1 z7 vf vg]].length (xtoks [AV.ptr [Blk.box [AV.bool wh,AV.ro 1 qr qz qy,AV.bool z8,AV.ro 1 zu zz zw],Blk.box [AV.bool z4,AV.ro 1 w5 zl zm],Blk.box [AV.bool v9,AV.ro 1 z7 vf vg]].length 0,AV.ptr 1 0] [])) 0,AV.ptr (xidx 1 (xtoks [AV.ptr [Blk.box [AV.bool wh,AV.ro 1 qr qz qy,AV.bool z8,AV.ro 1 zu zz zw],Blk.box [AV.bool z4,AV.ro 1 w5 zl zm],Blk.box [AV.bool v9,AV.ro 1 z7 vf vg]].length 0,AV.ptr 1 0] [])) 0,AV.bool false,AV.ro 1 0 0 fun (x j : Nat) => [AV.int .u32 0].getD j AV.dead,AV.bool z4,AV.ro 1 w5 zl zm]; ck (okX [RS.one LK.b,RS.one (LK.l 1),RS.one LK.b,RS.one (LK.l 1)] r8) <| let r9 : Option AV := zt [AV.ptr (xidx [Blk.box [AV.bool wh,AV.ro 1 qr qz qy,AV.bool z8,AV.ro 1 zu zz zw],Blk.box [AV.bool (toB ((toT (getV r8)).tail.tail.headD .dead)),AV.ro 1 (toN ((toT (getV r8)).tail.tail.tail.headD .dead)) (toR ((toT (getV r8)).tail.tail.tail.headD .dead)) (toG ((toT (getV r8)).tail.tail.tail.headD .dead))],Blk.box [AV.bool v9,AV.ro 1 z7 vf vg],Blk.box [AV.bool (toB ((toT (getV r8)).headD .dead)),AV.ro 1 (toN ((toT (getV r8)).tail.headD .dead)) (toR ((toT (getV r8)).tail.headD .dead)) (toG ((toT (getV r8)).tail.headD .dead))]].length (xtoks [AV.ptr [Blk.box [AV.bool wh,AV.ro 1 qr qz qy,AV.bool z8,AV.ro 1 zu zz zw],Blk.box [AV.bool (toB ((toT (getV r8)).tail.tail.headD .dead)),AV.ro 1 (toN ((toT (getV r8)).tail.tail.tail.headD .dead)) (toR ((toT (getV r8)).tail.tail.tail.headD .dead)) (toG ((toT (getV r8)).tail.tail.tail.headD .dead))],Blk.box [AV.bool v9,AV.ro 1 z7 vf vg],Blk.box [AV.bool (toB ((toT (getV r8)).headD .dead)),AV.ro 1 (toN ((toT (getV r8)).tail.headD .dead)) (toR ((toT (getV r8)).tail.headD .dead)) (toG ((toT (getV r8)).tail.headD .dead))]].length 0,AV.ptr 2 0] [])) 0,AV.ptr (xidx 2 (xtoks [AV.ptr [Blk.box [AV.bool wh,AV.ro 1 qr qz qy,AV.bool z8,AV.ro 1 zu zz zw],Blk.box [AV.bool (toB ((toT (getV r8)).tail.tail.headD .dead)),AV.ro 1 (toN ((toT (getV r8)).tail.tail.tail.headD .dead)) (toR ((toT (getV r8)).tail.tail.tail.headD .dead)) (toG ((toT (getV r8)).tail.tail.tail.headD .dead))],Blk.box [AV.bool v9,AV.ro 1 z7 vf vg],Blk.box [AV.bool (toB ((toT (getV r8)).headD .dead)),AV.ro 1 (toN ((toT (getV r8)).tail.headD .dead)) (toR ((toT (getV r8)).tail.headD .dead)) (toG ((toT (getV r8)).tail.headD .dead))]].length 0,AV.ptr 2 0] [])) 0,AV.bool false,AV.ro 1 0 0 fun (x j : Nat) => [AV.int .u32 0].getD j AV.dead,AV.bool v9,AV.ro 1 z7 vf vg]; ck (okX [RS.one LK.b,RS.one (LK.l 1),RS.one LK.b,RS.one (LK.l 1)] r9) <| let r10 : Option AV := yf [AV.ptr (xidx 0 (xtoks [AV.ptr 0 0] [])) 0,AV.bool (toB ((toT (getV r8)).headD .dead)),AV.ro 1 (toN ((toT (getV r8)).tail.headD .dead)) (toR ((toT (getV r8)).tail.headD .dead)) (toG ((toT (getV r8)).tail.headD .dead)),AV.bool (toB ((toT (getV r9)).headD .dead)),AV.ro 1 (toN ((toT (getV r9)).tail.headD .dead)) (toR ((toT (getV r9)).tail.headD .dead)) (toG ((toT (getV r9)).tail.headD .dead))]; ck (okX [RS.one LK.b,RS.one (LK.l 1),RS.one LK.b,RS.one (LK.l 1)] r10) <| some (AV.tup [AV.bool (toB ((toT (getV r10)).headD .dead)),AV.ro 1 (toN ((toT (getV r10)).tail.headD .dead)) (toR ((toT (getV r10)).tail.headD .dead)) (toG ((toT (getV r10)).tail.headD .dead)),AV.bool (toB ((toT (getV r10)).tail.tail.headD .dead)),AV.ro 1 (toN ((toT (getV r10)).tail.tail.tail.headD .dead)) (toR ((toT (getV r10)).tail.tail.tail.headD .dead)) (toG ((toT (getV r10)).tail.tail.tail.headD .dead)),AV.bool (toB ((toT (getV r8)).tail.tail.headD .dead)),AV.ro 1 (toN ((toT (getV r8)).tail.tail.tail.headD .dead)) (toR ((toT (getV r8)).tail.tail.tail.headD .dead)) (toG ((toT (getV r8)).tail.tail.tail.headD .dead)),AV.bool (toB ((toT (getV r9)).tail.tail.headD .dead)),AV.ro 1 (toN ((toT (getV r9)).tail.tail.tail.headD .dead)) (toR ((toT (getV r9)).tail.tail.tail.headD .dead)) (toG ((toT (getV r9)).tail.tail.tail.headD .dead))])
theorem gRat_SetFrac_a_run (ve zt : Mo) (z1 yf : Mo) (fuel : Nat) (wh : Bool) (qr qz : Nat) (qy : Ge) (z8 : Bool) (zu zz : Nat) (zw : Ge) (z4 : Bool) (w5 zl : Nat) (zm : Ge) (v9 : Bool) (z7 vf : Nat) (vg : Ge) : runX Pr (GRat_SetFrac_a ve zt z1 yf) [((2,73),LRat_SetFrac_a ve zt z1 yf fuel)] fuel 3 73 XRat_SetFrac_a [AV.ptr 0 0,AV.ptr 1 0,AV.ptr 2 0] [Blk.box [AV.bool wh,AV.ro 1 qr qz qy,AV.bool z8,AV.ro 1 zu zz zw],Blk.box [AV.bool z4,AV.ro 1 w5 zl zm],Blk.box [AV.bool v9,AV.ro 1 z7 vf vg]] = gRat_SetFrac_a ve zt z1 yf fuel wh qr qz qy z8 zu zz zw z4 w5 zl zm v9 z7 vf vg := by kernel_rfl
noncomputable def mRat_SetFrac_a (ve zt : Mo) (z1 yf : Mo) (fuel : Nat) (xs : List AV) : Option AV := match xs with
  | [AV.ptr 0 0,AV.ptr 1 0,AV.ptr 2 0,AV.bool wh,AV.ro 1 qr qz qy,AV.bool z8,AV.ro 1 zu zz zw,AV.bool z4,AV.ro 1 w5 zl zm,AV.bool v9,AV.ro 1 z7 vf vg] => gRat_SetFrac_a ve zt z1 yf fuel wh qr qz qy z8 zu zz zw z4 w5 zl zm v9 z7 vf vg
  | _ => none
theorem gRat_SetFrac_a_sm (ve zt : Mo) (z1 yf : Mo) (fuel : Nat) (hΓ : GamOk Pr (GRat_SetFrac_a ve zt z1 yf)) (hP : NamesOk Pr) : XOk Pr 73 (smX RRat_SetFrac_a XRat_SetFrac_a (mRat_SetFrac_a ve zt z1 yf fuel)) XRat_SetFrac_a := by
  refine smX_ok (fuel := fuel) hΓ hP (LamOk.of 2 73 (LRat_SetFrac_a ve zt z1 yf fuel) 0 (by kernel_rfl) (fun i hi => ?_)) 3 73 RRat_SetFrac_a XRat_SetFrac_a _ (fun xs0 ys0 v ha hb h => ?_)
  · match i,hi with
    | i + 0,hi => exact absurd hi (by omega)
  · skip
    have ha0 : xs0.length = 3 := ha
    clear ha
    obtain ⟨a0,xs1,rfl,ha1⟩ := len_cons ha0
    clear ha0
    obtain ⟨a1,xs2,rfl,ha2⟩ := len_cons ha1
    clear ha1
    obtain ⟨a2,xs3,rfl,ha3⟩ := len_cons ha2
    clear ha2
    obtain rfl := List.eq_nil_of_length_eq_zero ha3
    have hy0 : ys0.map List.length = [4,2,2] := hb
    clear hb
    obtain ⟨wh,ys1,rfl,hb0_0,hy1⟩ := map_cons' hy0
    clear hy0
    obtain ⟨c0_0,b0_1,rfl,hb0_1⟩ := len_cons hb0_0
    clear hb0_0
    obtain ⟨c0_1,z8,rfl,hb0_2⟩ := len_cons hb0_1
    clear hb0_1
    obtain ⟨c0_2,b0_3,rfl,hb0_3⟩ := len_cons hb0_2
    clear hb0_2
    obtain ⟨c0_3,b0_4,rfl,hb0_4⟩ := len_cons hb0_3
    clear hb0_3
    obtain rfl := List.eq_nil_of_length_eq_zero hb0_4
    obtain ⟨z4,ys2,rfl,hb1_0,hy2⟩ := map_cons' hy1
    clear hy1
    obtain ⟨c1_0,b1_1,rfl,hb1_1⟩ := len_cons hb1_0
    clear hb1_0
    obtain ⟨c1_1,qaq,rfl,hb1_2⟩ := len_cons hb1_1
    clear hb1_1
    obtain rfl := List.eq_nil_of_length_eq_zero hb1_2
    obtain ⟨v9,ys3,rfl,hb2_0,hy3⟩ := map_cons' hy2
    clear hy2
    obtain ⟨c2_0,b2_1,rfl,hb2_1⟩ := len_cons hb2_0
    clear hb2_0
    obtain ⟨c2_1,qdq,rfl,hb2_2⟩ := len_cons hb2_1
    clear hb2_1
    obtain rfl := List.eq_nil_of_length_eq_zero hb2_2
    obtain rfl := map_nil' hy3
    have h : mRat_SetFrac_a ve zt z1 yf fuel [a0,a1,a2,c0_0,c0_1,c0_2,c0_3,c1_0,c1_1,c2_0,c2_1] = some v := h
    generalize hx0 : [a0,a1,a2,c0_0,c0_1,c0_2,c0_3,c1_0,c1_1,c2_0,c2_1] = zs at h
    unfold mRat_SetFrac_a at h
    split at h
    · skip
      obtain ⟨rfl,hx1⟩ := List.cons.inj hx0
      obtain ⟨rfl,hx2⟩ := List.cons.inj hx1
      obtain ⟨rfl,hx3⟩ := List.cons.inj hx2
      obtain ⟨rfl,hx4⟩ := List.cons.inj hx3
      obtain ⟨rfl,hx5⟩ := List.cons.inj hx4
      obtain ⟨rfl,hx6⟩ := List.cons.inj hx5
      obtain ⟨rfl,hx7⟩ := List.cons.inj hx6
      obtain ⟨rfl,hx8⟩ := List.cons.inj hx7
      obtain ⟨rfl,hx9⟩ := List.cons.inj hx8
      obtain ⟨rfl,hx10⟩ := List.cons.inj hx9
      obtain ⟨rfl,hx11⟩ := List.cons.inj hx10
      simp only [List.map_cons,List.map_nil]
      exact (gRat_SetFrac_a_run ve zt z1 yf fuel _ _ _ _ _ _ _ _ _ _ _ _ _ _ _ _).trans h
    · cases h
noncomputable def Smul_0 (qc5 qdj : Nat) (qce : Ge) (qcu qdn : Nat) (qcc : Ge) (qbd qct qdk : Nat) (qba uc7 uj8 : Int) (pf : List AV) (pg : List (List AV)) : St := { env := [(0,AV.ro 1 qc5 qdj qce),(1,AV.ro 1 qcu qdn qcc),(5,AV.own 0 qbd 1 qct qdk),(6,AV.int .i64 qba),(7,AV.int .u64 uc7),(8,AV.int .i64 uj8)],h := [Blk.fx 1 pf pg],kd := [] }
noncomputable def Xmul_0_0 (qb7 qd8 : Nat) (qd7 : Ge) (qje qjm : Nat) (qjd : Ge) (qjg qjj qi3 : Nat) (qsm qr9 : Int) (qg0 : List AV) (qgv : List (List AV)) : St := { env := [(0,AV.ro 1 qb7 qd8 qd7),(1,AV.ro 1 qje qjm qjd),(5,AV.own 0 qjg 1 qjj qi3),(6,AV.int .i64 qsm),(7,AV.int .u64 qr9)],h := [Blk.fx 1 qg0 qgv],kd := [] }
noncomputable def gmul_l0_step (qe : Mo) (fuel : Nat) (kn : Int → Int → List (List AV) → Option AV) (kx0 : Nat → Nat → Ge → Nat → Nat → Ge → Nat → Nat → Nat → Int → Int → List AV → List (List AV) → Option AV) (qc5 qdj : Nat) (qce : Ge) (qcu qdn : Nat) (qcc : Ge) (qbd qct qdk : Nat) (qba : Int) (pf : List AV) (uc7 uj8 : Int) (pg : List (List AV)) : Option AV :=
  bif decide (uj8 < (↑qcu : Int)) then ck (decide (0 ≤ qba)) <| ck (decide (qba < (↑qc5 : Int))) <| ck (fitK (LK.i .u32) (qce qba.toNat 0)) <| ck (decide (0 ≤ uj8)) <| ck (decide (uj8 < (↑qcu : Int))) <| ck (fitK (LK.i .u32) (qcc uj8.toNat 0)) <| ck (decide (0 ≤ IntKind.i64.wrap (qba + uj8))) <| ck (decide (IntKind.i64.wrap (qba + uj8) < (↑qct : Int))) <| ck (fitK (LK.i .u32) ((pg.getD (qbd + (IntKind.i64.wrap (qba + uj8)).toNat) pf).getD 0 AV.dead)) <| ck (decide (0 ≤ IntKind.i64.wrap (qba + uj8))) <| ck (decide (IntKind.i64.wrap (qba + uj8) < (↑qct : Int))) <| kn ((IntKind.u64.wrap (uc7 + IntKind.u64.wrap (IntKind.u64.wrap (IntKind.u64.wrap (toI (qce qba.toNat 0)) * IntKind.u64.wrap (toI (qcc uj8.toNat 0))) + IntKind.u64.wrap (toI ((pg.getD (qbd + (IntKind.i64.wrap (qba + uj8)).toNat) pf).getD 0 AV.dead))))).fdiv (2 ^ 32)) (IntKind.i64.wrap (uj8 + 1)) (pg.set (qbd + (IntKind.i64.wrap (qba + uj8)).toNat) (AV.int .u32 (IntKind.u32.wrap (IntKind.u64.wrap (uc7 + IntKind.u64.wrap (IntKind.u64.wrap (IntKind.u64.wrap (toI (qce qba.toNat 0)) * IntKind.u64.wrap (toI (qcc uj8.toNat 0))) + IntKind.u64.wrap (toI ((pg.getD (qbd + (IntKind.i64.wrap (qba + uj8)).toNat) pf).getD 0 AV.dead)))))) :: List.drop (0 + [AV.int .u32 (IntKind.u32.wrap (IntKind.u64.wrap (uc7 + IntKind.u64.wrap (IntKind.u64.wrap (IntKind.u64.wrap (toI (qce qba.toNat 0)) * IntKind.u64.wrap (toI (qcc uj8.toNat 0))) + IntKind.u64.wrap (toI ((pg.getD (qbd + (IntKind.i64.wrap (qba + uj8)).toNat) pf).getD 0 AV.dead))))))].length) (pg.getD (qbd + (IntKind.i64.wrap (qba + uj8)).toNat) pf)))
  else kx0 qc5 qdj qce qcu qdn qcc qbd qct qdk qba uc7 pf pg
noncomputable def gmul_l0 (qe : Mo) (fuel : Nat) (kx0 : Nat → Nat → Ge → Nat → Nat → Ge → Nat → Nat → Nat → Int → Int → List AV → List (List AV) → Option AV) (qc5 qdj : Nat) (qce : Ge) (qcu qdn : Nat) (qcc : Ge) (qbd qct qdk : Nat) (qba : Int) (pf : List AV) : Nat → Int → Int → List (List AV) → Option AV
  | 0,_,_,_ => none
  | n' + 1,uc7,uj8,pg => gmul_l0_step qe fuel (gmul_l0 qe fuel kx0 qc5 qdj qce qcu qdn qcc qbd qct qdk qba pf n') kx0 qc5 qdj qce qcu qdn qcc qbd qct qdk qba pf uc7 uj8 pg
termination_by structural k => k
noncomputable def Tmul_0 : TS' := ⟨[(0,TA.ro 1),(1,TA.ro 1),(5,TA.own 0 1),(6,TA.i .i64),(7,TA.i .u64),(8,TA.i .i64)],[TB.fx 1],[]⟩
noncomputable def Fmul_0 (qe : Mo) (fuel : Nat) (ps : List Pay) (K : Ex → St → Option AV) : Option AV := match ps with
  | .n qc5 :: .n qdj :: .g qce :: .n qcu :: .n qdn :: .g qcc :: .n qbd :: .n qct :: .n qdk :: .i qba :: .i uc7 :: .i uj8 :: .z pf :: .e pg :: [] => gmul_l0 qe fuel (fun qb7 qd8 qd7 qje qjm qjd qjg qjj qi3 qsm qr9 qg0 qgv => K (Ex.exit 2) (Xmul_0_0 qb7 qd8 qd7 qje qjm qjd qjg qjj qi3 qsm qr9 qg0 qgv)) qc5 qdj qce qcu qdn qcc qbd qct qdk qba pf fuel uc7 uj8 pg
  | _ => none
noncomputable def Smul_1 (qp qt : Nat) (qm : Ge) (wj wn : Nat) (wi : Ge) (yi v5 y3 : Nat) (ui6 : Int) (h0z : List AV) (h0e : List (List AV)) : St := { env := [(0,AV.ro 1 qp qt qm),(1,AV.ro 1 wj wn wi),(5,AV.own 0 yi 1 v5 y3),(6,AV.int .i64 ui6)],h := [Blk.fx 1 h0z h0e],kd := [] }
noncomputable def Xmul_1_0 (qqv qp7 qpw : Nat) (qnq : List AV) (qmi : List (List AV)) : St := { env := [(5,AV.own 0 qqv 1 qp7 qpw)],h := [Blk.fx 1 qnq qmi],kd := [] }
noncomputable def gmul_l1_step (qe : Mo) (fuel : Nat) (kn : Nat → Nat → Ge → Nat → Nat → Ge → Nat → Nat → Nat → Int → List AV → List (List AV) → Option AV) (kx0 : Nat → Nat → Nat → List AV → List (List AV) → Option AV) (qp qt : Nat) (qm : Ge) (wj wn : Nat) (wi : Ge) (yi v5 y3 : Nat) (ui6 : Int) (h0z : List AV) (h0e : List (List AV)) : Option AV :=
  bif decide (ui6 < (↑qp : Int)) then gmul_l0 qe fuel
      (fun (p7 qax : Nat) (qay : Ge) (qet qgc : Nat) (qgm : Ge) (qan pr qbc : Nat) (qmq qq6 : Int) (v1 : List AV) (v0 : List (List AV)) => ck (decide (0 ≤ IntKind.i64.wrap (qmq + (↑qet : Int)))) <| ck (decide (IntKind.i64.wrap (qmq + (↑qet : Int)) < (↑pr : Int))) <| kn p7 qax qay qet qgc qgm qan pr qbc (IntKind.i64.wrap (qmq + 1)) v1 (v0.set (qan + (IntKind.i64.wrap (qmq + (↑qet : Int))).toNat) (AV.int .u32 (IntKind.u32.wrap qq6) :: List.drop (0 + [AV.int .u32 (IntKind.u32.wrap qq6)].length) (v0.getD (qan + (IntKind.i64.wrap (qmq + (↑qet : Int))).toNat) v1))))
      qp
      qt
      qm
      wj
      wn
      wi
      yi
      v5
      y3
      ui6
      h0z fuel (0) (0) h0e
  else kx0 yi v5 y3 h0z h0e
noncomputable def gmul_l1 (qe : Mo) (fuel : Nat) (kx0 : Nat → Nat → Nat → List AV → List (List AV) → Option AV) : Nat → Nat → Nat → Ge → Nat → Nat → Ge → Nat → Nat → Nat → Int → List AV → List (List AV) → Option AV
  | 0,_,_,_,_,_,_,_,_,_,_,_,_ => none
  | n' + 1,qp,qt,qm,wj,wn,wi,yi,v5,y3,ui6,h0z,h0e => gmul_l1_step qe fuel (gmul_l1 qe fuel kx0 n') kx0 qp qt qm wj wn wi yi v5 y3 ui6 h0z h0e
noncomputable def Tmul_1 : TS' := ⟨[(0,TA.ro 1),(1,TA.ro 1),(5,TA.own 0 1),(6,TA.i .i64)],[TB.fx 1],[]⟩
noncomputable def Fmul_1 (qe : Mo) (fuel : Nat) (ps : List Pay) (K : Ex → St → Option AV) : Option AV := match ps with
  | .n qp :: .n qt :: .g qm :: .n wj :: .n wn :: .g wi :: .n yi :: .n v5 :: .n y3 :: .i ui6 :: .z h0z :: .e h0e :: [] => gmul_l1 qe fuel (fun qqv qp7 qpw qnq qmi => K (Ex.exit 0) (Xmul_1_0 qqv qp7 qpw qnq qmi)) fuel qp qt qm wj wn wi yi v5 y3 ui6 h0z h0e
  | _ => none
noncomputable def Lmul (qe : Mo) (fuel : Nat) : Lam AV := [(36893488146882232704,lam Tmul_0 (Fmul_0 qe fuel)),(9444732965739282039232,lam Tmul_1 (Fmul_1 qe fuel))]
noncomputable def Gmul (qe : Mo) : Gam := [(195,smM [RS.one (LK.l (nat_lit 1))] qe)]
theorem gmul_l0_eq (qe : Mo) (fuel : Nat) (kn : St → Option AV) (K : Ex → St → Option AV) (qc5 qdj : Nat) (qce : Ge) (qcu qdn : Nat) (qcc : Ge) (qbd qct qdk : Nat) (qba : Int) (pf : List AV) (qs7 qsx : Int) (qkm : List (List AV)) (uc7 uj8 : Int) (pg : List (List AV)) :
    bX Pr (Gmul qe) (Lmul qe fuel) 6 134 1 fuel (Smul_0 qc5 qdj qce qcu qdn qcc qbd qct qdk qba uc7 uj8 pf pg) (fun e s => match e with | .normal => kn (hX Pr 134 1 (Smul_0 qc5 qdj qce qcu qdn qcc qbd qct qdk qba qs7 qsx pf qkm) s) | e => K e s) =
    gmul_l0_step qe fuel (fun uc7 uj8 pg => kn (Smul_0 qc5 qdj qce qcu qdn qcc qbd qct qdk qba uc7 uj8 pf pg)) (fun p7 qax qay qet qgc qgm qan pr qbc qmq qq6 v1 v0 => K (Ex.exit 2) (Xmul_0_0 p7 qax qay qet qgc qgm qan pr qbc qmq qq6 v1 v0)) qc5 qdj qce qcu qdn qcc qbd qct qdk qba pf uc7 uj8 pg := by kernel_rfl
theorem gmul_l0_ok (qe : Mo) (fuel : Nat) (K : Ex → St → Option AV) (qc5 qdj : Nat) (qce : Ge) (qcu qdn : Nat) (qcc : Ge) (qbd qct qdk : Nat) (qba : Int) (pf : List AV) (qs7 qsx : Int) (qkm : List (List AV)) : ∀ (n' : Nat) (uc7 uj8 : Int) (pg : List (List AV)),
    loopK (bX Pr (Gmul qe) (Lmul qe fuel) 6 134 1 fuel) (hX Pr 134 1 (Smul_0 qc5 qdj qce qcu qdn qcc qbd qct qdk qba qs7 qsx pf qkm)) n' (Smul_0 qc5 qdj qce qcu qdn qcc qbd qct qdk qba uc7 uj8 pf pg) K = gmul_l0 qe fuel (fun p7 qax qay qet qgc qgm qan pr qbc qmq qq6 v1 v0 => K (Ex.exit 2) (Xmul_0_0 p7 qax qay qet qgc qgm qan pr qbc qmq qq6 v1 v0)) qc5 qdj qce qcu qdn qcc qbd qct qdk qba pf n' uc7 uj8 pg
  | 0,_,_,_ => rfl
  | n' + 1,uc7,uj8,pg => (gmul_l0_eq qe fuel (fun s => loopK (bX Pr (Gmul qe) (Lmul qe fuel) 6 134 1 fuel) (hX Pr 134 1 (Smul_0 qc5 qdj qce qcu qdn qcc qbd qct qdk qba qs7 qsx pf qkm)) n' s K) K qc5 qdj qce qcu qdn qcc qbd qct qdk qba pf qs7 qsx qkm uc7 uj8 pg).trans
    (congrArg (fun kn => gmul_l0_step qe fuel kn _ qc5 qdj qce qcu qdn qcc qbd qct qdk qba pf uc7 uj8 pg) (funext fun uc7 => funext fun uj8 => funext fun pg => gmul_l0_ok qe fuel K qc5 qdj qce qcu qdn qcc qbd qct qdk qba pf qs7 qsx qkm n' uc7 uj8 pg))
theorem gmul_L0 (qe : Mo) (fuel : Nat) : LX Pr (Gmul qe) (Lmul qe fuel) 6 134 1 fuel := by
  refine .of Tmul_0 (Fmul_0 qe fuel) (fun L h => ?_) (fun ps st K r he hr => ?_)
  · have e : (Lmul qe fuel).get (writes (lp Pr 134 1).1) = some (lam Tmul_0 (Fmul_0 qe fuel)) := by kernel_rfl
    exact (Option.some.inj (e.symm.trans h)).symm
  · unfold Fmul_0 at hr
    split at hr
    · obtain rfl := (Option.some.inj he).symm
      exact (gmul_l0_ok qe fuel K _ _ _ _ _ _ _ _ _ _ _ _ _ _ fuel _ _ _).trans hr
    · cases hr
theorem gmul_l1_eq (qe : Mo) (fuel : Nat) (kn : St → Option AV) (K : Ex → St → Option AV) (qfg qfj : Nat) (qff : Ge) (qfe qfi : Nat) (qfh : Ge) (qon qim qow : Nat) (qk9 : Int) (qlp : List AV) (pj : List (List AV)) (qp qt : Nat) (qm : Ge) (wj wn : Nat) (wi : Ge) (yi v5 y3 : Nat) (ui6 : Int) (h0z : List AV) (h0e : List (List AV)) :
    bX Pr (Gmul qe) (Lmul qe fuel) 6 134 0 fuel (Smul_1 qp qt qm wj wn wi yi v5 y3 ui6 h0z h0e) (fun e s => match e with | .normal => kn (hX Pr 134 0 (Smul_1 qfg qfj qff qfe qfi qfh qon qim qow qk9 qlp pj) s) | e => K e s) =
    gmul_l1_step qe fuel (fun qp qt qm wj wn wi yi v5 y3 ui6 h0z h0e => kn (Smul_1 qp qt qm wj wn wi yi v5 y3 ui6 h0z h0e)) (fun qan pr qbc v1 v0 => K (Ex.exit 0) (Xmul_1_0 qan pr qbc v1 v0)) qp qt qm wj wn wi yi v5 y3 ui6 h0z h0e := by kernel_rfl
theorem gmul_l1_ok (qe : Mo) (fuel : Nat) (K : Ex → St → Option AV) (qfg qfj : Nat) (qff : Ge) (qfe qfi : Nat) (qfh : Ge) (qon qim qow : Nat) (qk9 : Int) (qlp : List AV) (pj : List (List AV)) : ∀ (n' qp qt : Nat) (qm : Ge) (wj wn : Nat) (wi : Ge) (yi v5 y3 : Nat) (ui6 : Int) (h0z : List AV) (h0e : List (List AV)),
    loopK (bX Pr (Gmul qe) (Lmul qe fuel) 6 134 0 fuel) (hX Pr 134 0 (Smul_1 qfg qfj qff qfe qfi qfh qon qim qow qk9 qlp pj)) n' (Smul_1 qp qt qm wj wn wi yi v5 y3 ui6 h0z h0e) K = gmul_l1 qe fuel (fun qan pr qbc v1 v0 => K (Ex.exit 0) (Xmul_1_0 qan pr qbc v1 v0)) n' qp qt qm wj wn wi yi v5 y3 ui6 h0z h0e
  | 0,_,_,_,_,_,_,_,_,_,_,_,_ => rfl
  | n' + 1,qp,qt,qm,wj,wn,wi,yi,v5,y3,ui6,h0z,h0e => (gmul_l1_eq qe fuel (fun s => loopK (bX Pr (Gmul qe) (Lmul qe fuel) 6 134 0 fuel) (hX Pr 134 0 (Smul_1 qfg qfj qff qfe qfi qfh qon qim qow qk9 qlp pj)) n' s K) K qfg qfj qff qfe qfi qfh qon qim qow qk9 qlp pj qp qt qm wj wn wi yi v5 y3 ui6 h0z h0e).trans
    (congrArg (fun kn => gmul_l1_step qe fuel kn _ qp qt qm wj wn wi yi v5 y3 ui6 h0z h0e) (funext fun qp => funext fun qt => funext fun qm => funext fun wj => funext fun wn => funext fun wi => funext fun yi => funext fun v5 => funext fun y3 => funext fun ui6 => funext fun h0z => funext fun h0e => gmul_l1_ok qe fuel K qfg qfj qff qfe qfi qfh qon qim qow qk9 qlp pj n' qp qt qm wj wn wi yi v5 y3 ui6 h0z h0e))
termination_by structural k => k
theorem gmul_L1 (qe : Mo) (fuel : Nat) : LX Pr (Gmul qe) (Lmul qe fuel) 6 134 0 fuel := by
  refine .of Tmul_1 (Fmul_1 qe fuel) (fun L h => ?_) (fun ps st K r he hr => ?_)
  · have e : (Lmul qe fuel).get (writes (lp Pr 134 0).1) = some (lam Tmul_1 (Fmul_1 qe fuel)) := by kernel_rfl
    exact (Option.some.inj (e.symm.trans h)).symm
  · unfold Fmul_1 at hr
    split at hr
    · obtain rfl := (Option.some.inj he).symm
      exact (gmul_l1_ok qe fuel K _ _ _ _ _ _ _ _ _ _ _ _ fuel _ _ _ _ _ _ _ _ _ _ _ _).trans hr
    · cases hr
noncomputable def gmul (qe : Mo) (fuel zn vq : Nat) (vh : Ge) (ym pp : Nat) (pi : Ge) : Option AV :=
  bif bif (↑zn : Int) == 0 then true else (↑ym : Int) == 0 then some (AV.ro 1 0 0 fun (x j : Nat) => [AV.int .u32 0].getD j AV.dead)
  else ck (decide (0 ≤ IntKind.i64.wrap ((↑zn : Int) + (↑ym : Int)))) <| ck (decide (IntKind.i64.wrap ((↑zn : Int) + (↑ym : Int)) ≤ IntKind.i64.wrap ((↑zn : Int) + (↑ym : Int)))) <| ck ((4 * (IntKind.i64.wrap ((↑zn : Int) + (↑ym : Int))).toNat).ble 281474976710656) <| ck (((IntKind.i64.wrap ((↑zn : Int) + (↑ym : Int))).toNat + 1).ble 4611686018427387904) <| gmul_l1 qe fuel
    (fun (qfc qds qge : Nat) (yp : List AV) (yr : List (List AV)) => let r0 : Option AV := qe [AV.ro 1 qds qge fun (i j : Nat) => (yr.getD (qfc + i) yp).getD j AV.dead]; ck (okM [RS.one (LK.l 1)] r0) <| some (AV.ro 1 (toN (getV r0)) (toR (getV r0)) (toG (getV r0)))) fuel zn vq vh ym pp pi (0) ((IntKind.i64.wrap ((↑zn : Int) + (↑ym : Int))).toNat) ((IntKind.i64.wrap ((↑zn : Int) + (↑ym : Int))).toNat) (0) ([AV.int .u32 0]) (List.replicate (IntKind.i64.wrap ((↑zn : Int) + (↑ym : Int))).toNat [AV.int .u32 0])
noncomputable def mmul (qe : Mo) (fuel : Nat) (xs : List AV) : Option AV := match xs with
  | [AV.ro 1 zn vq vh,AV.ro 1 ym pp pi] => gmul qe fuel zn vq vh ym pp pi
  | _ => none
abbrev Rmul : List RS := [RS.one (LK.l (nat_lit 1))]
theorem gmul_sm (qe : Mo) (fuel : Nat) (hΓ : GamOk Pr (Gmul qe)) (hP : NamesOk Pr) : SmOk Pr 134 (smM Rmul (mmul qe fuel)) := smL (L := (Lmul qe fuel)) (n := 2) hΓ hP (by kernel_rfl) (fun i hi => match i,hi with
  | 1,_ => gmul_L0 qe fuel
  | 0,_ => gmul_L1 qe fuel
  | i + 2,hi => absurd hi (by omega)) fun xs v h => by
  unfold mmul at h
  split at h
  · exact Eq.trans (by kernel_rfl) h
  · cases h
noncomputable def LInt_Mul_rr (vv qc : Mo) (qb qa : Mo) (fuel : Nat) : Lam AV := []
noncomputable def GInt_Mul_rr (vv qc : Mo) (qb qa : Mo) : Gam := [(134,smM [RS.one (LK.l (nat_lit 1))] vv),(133,smX RInt_give_i XInt_give_i qc),(133,smX RInt_give_ra XInt_give_ra qb),(133,smX RInt_give_rb XInt_give_rb qa)]
noncomputable def gInt_Mul_rr (vv qc : Mo) (qb qa : Mo) (fuel : Nat) (wh : Bool) (qr qz : Nat) (qy : Ge) (z4 : Bool) (w5 zl : Nat) (zm : Ge) (qaq : Bool) (qaa qad : Nat) (qac : Ge) (v9 : Bool) (z7 vf : Nat) (vg : Ge) (qdq : Bool) (qcz qc0 : Nat) (qcy : Ge) : Option AV :=
  let r0 : Option AV := vv [AV.ro 1 w5 zl zm,AV.ro 1 z7 vf vg]; ck (okM [RS.one (LK.l 1)] r0) <| let r1 : Option AV := qc [AV.ptr (xidx 0 (xtoks [AV.ptr 0 0,AV.bool !z4 == v9,AV.ro 1 (toN (getV r0)) (toR (getV r0)) (toG (getV r0))] [])) 0,AV.bool !z4 == v9,AV.ro 1 (toN (getV r0)) (toR (getV r0)) (toG (getV r0)),AV.bool wh,AV.ro 1 qr qz qy]; ck (okX [RS.one LK.b,RS.one (LK.l 1)] r1) <| some (AV.tup [AV.bool (toB ((toT (getV r1)).headD .dead)),AV.ro 1 (toN ((toT (getV r1)).tail.headD .dead)) (toR ((toT (getV r1)).tail.headD .dead)) (toG ((toT (getV r1)).tail.headD .dead)),AV.bool z4,AV.ro 1 w5 zl zm,AV.bool qaq,AV.ro 1 qaa qad qac,AV.bool v9,AV.ro 1 z7 vf vg,AV.bool qdq,AV.ro 1 qcz qc0 qcy])
theorem gInt_Mul_rr_run (vv qc : Mo) (qb qa : Mo) (fuel : Nat) (wh : Bool) (qr qz : Nat) (qy : Ge) (z4 : Bool) (w5 zl : Nat) (zm : Ge) (qaq : Bool) (qaa qad : Nat) (qac : Ge) (v9 : Bool) (z7 vf : Nat) (vg : Ge) (qdq : Bool) (qcz qc0 : Nat) (qcy : Ge) : runX Pr (GInt_Mul_rr vv qc qb qa) [((6,75),LInt_Mul_rr vv qc qb qa fuel)] fuel 7 75 XInt_Mul_rr [AV.ptr 0 0,AV.ptr 1 0,AV.ptr 2 0] [Blk.box [AV.bool wh,AV.ro 1 qr qz qy],Blk.box [AV.bool z4,AV.ro 1 w5 zl zm,AV.bool qaq,AV.ro 1 qaa qad qac],Blk.box [AV.bool v9,AV.ro 1 z7 vf vg,AV.bool qdq,AV.ro 1 qcz qc0 qcy]] = gInt_Mul_rr vv qc qb qa fuel wh qr qz qy z4 w5 zl zm qaq qaa qad qac v9 z7 vf vg qdq qcz qc0 qcy := by kernel_rfl
noncomputable def mInt_Mul_rr (vv qc : Mo) (qb qa : Mo) (fuel : Nat) (xs : List AV) : Option AV := match xs with
  | [AV.ptr 0 0,AV.ptr 1 0,AV.ptr 2 0,AV.bool wh,AV.ro 1 qr qz qy,AV.bool z4,AV.ro 1 w5 zl zm,AV.bool qaq,AV.ro 1 qaa qad qac,AV.bool v9,AV.ro 1 z7 vf vg,AV.bool qdq,AV.ro 1 qcz qc0 qcy] => gInt_Mul_rr vv qc qb qa fuel wh qr qz qy z4 w5 zl zm qaq qaa qad qac v9 z7 vf vg qdq qcz qc0 qcy
  | _ => none
theorem gInt_Mul_rr_sm (vv qc : Mo) (qb qa : Mo) (fuel : Nat) (hΓ : GamOk Pr (GInt_Mul_rr vv qc qb qa)) (hP : NamesOk Pr) : XOk Pr 75 (smX RInt_Mul_rr XInt_Mul_rr (mInt_Mul_rr vv qc qb qa fuel)) XInt_Mul_rr := by
  refine smX_ok (fuel := fuel) hΓ hP (LamOk.of 6 75 (LInt_Mul_rr vv qc qb qa fuel) 0 (by kernel_rfl) (fun i hi => ?_)) 7 75 RInt_Mul_rr XInt_Mul_rr _ (fun xs0 ys0 v ha hb h => ?_)
  · match i,hi with
    | i + 0,hi => exact absurd hi (by omega)
  · skip
    have ha0 : xs0.length = 3 := ha
    clear ha
    obtain ⟨a0,xs1,rfl,ha1⟩ := len_cons ha0
    clear ha0
    obtain ⟨a1,xs2,rfl,ha2⟩ := len_cons ha1
    clear ha1
    obtain ⟨a2,xs3,rfl,ha3⟩ := len_cons ha2
    clear ha2
    obtain rfl := List.eq_nil_of_length_eq_zero ha3
    have hy0 : ys0.map List.length = [2,4,4] := hb
    clear hb
    obtain ⟨wh,ys1,rfl,hb0_0,hy1⟩ := map_cons' hy0
    clear hy0
    obtain ⟨c0_0,b0_1,rfl,hb0_1⟩ := len_cons hb0_0
    clear hb0_0
    obtain ⟨c0_1,z8,rfl,hb0_2⟩ := len_cons hb0_1
    clear hb0_1
    obtain rfl := List.eq_nil_of_length_eq_zero hb0_2
    obtain ⟨z4,ys2,rfl,hb1_0,hy2⟩ := map_cons' hy1
    clear hy1
    obtain ⟨c1_0,b1_1,rfl,hb1_1⟩ := len_cons hb1_0
    clear hb1_0
    obtain ⟨c1_1,qaq,rfl,hb1_2⟩ := len_cons hb1_1
    clear hb1_1
    obtain ⟨c1_2,b1_3,rfl,hb1_3⟩ := len_cons hb1_2
    clear hb1_2
    obtain ⟨c1_3,b1_4,rfl,hb1_4⟩ := len_cons hb1_3
    clear hb1_3
    obtain rfl := List.eq_nil_of_length_eq_zero hb1_4
    obtain ⟨v9,ys3,rfl,hb2_0,hy3⟩ := map_cons' hy2
    clear hy2
    obtain ⟨c2_0,b2_1,rfl,hb2_1⟩ := len_cons hb2_0
    clear hb2_0
    obtain ⟨c2_1,qdq,rfl,hb2_2⟩ := len_cons hb2_1
    clear hb2_1
    obtain ⟨c2_2,b2_3,rfl,hb2_3⟩ := len_cons hb2_2
    clear hb2_2
    obtain ⟨c2_3,b2_4,rfl,hb2_4⟩ := len_cons hb2_3
    clear hb2_3
    obtain rfl := List.eq_nil_of_length_eq_zero hb2_4
    obtain rfl := map_nil' hy3
    have h : mInt_Mul_rr vv qc qb qa fuel [a0,a1,a2,c0_0,c0_1,c1_0,c1_1,c1_2,c1_3,c2_0,c2_1,c2_2,c2_3] = some v := h
    generalize hx0 : [a0,a1,a2,c0_0,c0_1,c1_0,c1_1,c1_2,c1_3,c2_0,c2_1,c2_2,c2_3] = zs at h
    unfold mInt_Mul_rr at h
    split at h
    · skip
      obtain ⟨rfl,hx1⟩ := List.cons.inj hx0
      obtain ⟨rfl,hx2⟩ := List.cons.inj hx1
      obtain ⟨rfl,hx3⟩ := List.cons.inj hx2
      obtain ⟨rfl,hx4⟩ := List.cons.inj hx3
      obtain ⟨rfl,hx5⟩ := List.cons.inj hx4
      obtain ⟨rfl,hx6⟩ := List.cons.inj hx5
      obtain ⟨rfl,hx7⟩ := List.cons.inj hx6
      obtain ⟨rfl,hx8⟩ := List.cons.inj hx7
      obtain ⟨rfl,hx9⟩ := List.cons.inj hx8
      obtain ⟨rfl,hx10⟩ := List.cons.inj hx9
      obtain ⟨rfl,hx11⟩ := List.cons.inj hx10
      obtain ⟨rfl,hx12⟩ := List.cons.inj hx11
      obtain ⟨rfl,hx13⟩ := List.cons.inj hx12
      simp only [List.map_cons,List.map_nil]
      exact (gInt_Mul_rr_run vv qc qb qa fuel _ _ _ _ _ _ _ _ _ _ _ _ _ _ _ _ _ _ _ _).trans h
    · cases h
noncomputable def LInt_Mul_bb (vv qc : Mo) (qb qa : Mo) (fuel : Nat) : Lam AV := []
noncomputable def GInt_Mul_bb (vv qc : Mo) (qb qa : Mo) : Gam := [(134,smM [RS.one (LK.l (nat_lit 1))] vv),(133,smX RInt_give_i XInt_give_i qc),(133,smX RInt_give_ra XInt_give_ra qb),(133,smX RInt_give_rb XInt_give_rb qa)]
noncomputable def gInt_Mul_bb (vv qc : Mo) (qb qa : Mo) (fuel : Nat) (wh : Bool) (qr qz : Nat) (qy : Ge) (z4 : Bool) (w5 zl : Nat) (zm : Ge) (qaq : Bool) (qaa qad : Nat) (qac : Ge) (v9 : Bool) (z7 vf : Nat) (vg : Ge) (qdq : Bool) (qcz qc0 : Nat) (qcy : Ge) : Option AV :=
  let r0 : Option AV := vv [AV.ro 1 qaa qad qac,AV.ro 1 qcz qc0 qcy]; ck (okM [RS.one (LK.l 1)] r0) <| let r1 : Option AV := qc [AV.ptr (xidx 0 (xtoks [AV.ptr 0 0,AV.bool !qaq == qdq,AV.ro 1 (toN (getV r0)) (toR (getV r0)) (toG (getV r0))] [])) 0,AV.bool !qaq == qdq,AV.ro 1 (toN (getV r0)) (toR (getV r0)) (toG (getV r0)),AV.bool wh,AV.ro 1 qr qz qy]; ck (okX [RS.one LK.b,RS.one (LK.l 1)] r1) <| some (AV.tup [AV.bool (toB ((toT (getV r1)).headD .dead)),AV.ro 1 (toN ((toT (getV r1)).tail.headD .dead)) (toR ((toT (getV r1)).tail.headD .dead)) (toG ((toT (getV r1)).tail.headD .dead)),AV.bool z4,AV.ro 1 w5 zl zm,AV.bool qaq,AV.ro 1 qaa qad qac,AV.bool v9,AV.ro 1 z7 vf vg,AV.bool qdq,AV.ro 1 qcz qc0 qcy])
theorem gInt_Mul_bb_run (vv qc : Mo) (qb qa : Mo) (fuel : Nat) (wh : Bool) (qr qz : Nat) (qy : Ge) (z4 : Bool) (w5 zl : Nat) (zm : Ge) (qaq : Bool) (qaa qad : Nat) (qac : Ge) (v9 : Bool) (z7 vf : Nat) (vg : Ge) (qdq : Bool) (qcz qc0 : Nat) (qcy : Ge) : runX Pr (GInt_Mul_bb vv qc qb qa) [((6,75),LInt_Mul_bb vv qc qb qa fuel)] fuel 7 75 XInt_Mul_bb [AV.ptr 0 0,AV.ptr 1 2,AV.ptr 2 2] [Blk.box [AV.bool wh,AV.ro 1 qr qz qy],Blk.box [AV.bool z4,AV.ro 1 w5 zl zm,AV.bool qaq,AV.ro 1 qaa qad qac],Blk.box [AV.bool v9,AV.ro 1 z7 vf vg,AV.bool qdq,AV.ro 1 qcz qc0 qcy]] = gInt_Mul_bb vv qc qb qa fuel wh qr qz qy z4 w5 zl zm qaq qaa qad qac v9 z7 vf vg qdq qcz qc0 qcy := by kernel_rfl
noncomputable def mInt_Mul_bb (vv qc : Mo) (qb qa : Mo) (fuel : Nat) (xs : List AV) : Option AV := match xs with
  | [AV.ptr 0 0,AV.ptr 1 2,AV.ptr 2 2,AV.bool wh,AV.ro 1 qr qz qy,AV.bool z4,AV.ro 1 w5 zl zm,AV.bool qaq,AV.ro 1 qaa qad qac,AV.bool v9,AV.ro 1 z7 vf vg,AV.bool qdq,AV.ro 1 qcz qc0 qcy] => gInt_Mul_bb vv qc qb qa fuel wh qr qz qy z4 w5 zl zm qaq qaa qad qac v9 z7 vf vg qdq qcz qc0 qcy
  | _ => none
theorem gInt_Mul_bb_sm (vv qc : Mo) (qb qa : Mo) (fuel : Nat) (hΓ : GamOk Pr (GInt_Mul_bb vv qc qb qa)) (hP : NamesOk Pr) : XOk Pr 75 (smX RInt_Mul_bb XInt_Mul_bb (mInt_Mul_bb vv qc qb qa fuel)) XInt_Mul_bb := by
  refine smX_ok (fuel := fuel) hΓ hP (LamOk.of 6 75 (LInt_Mul_bb vv qc qb qa fuel) 0 (by kernel_rfl) (fun i hi => ?_)) 7 75 RInt_Mul_bb XInt_Mul_bb _ (fun xs0 ys0 v ha hb h => ?_)
  · match i,hi with
    | i + 0,hi => exact absurd hi (by omega)
  · skip
    have ha0 : xs0.length = 3 := ha
    clear ha
    obtain ⟨a0,xs1,rfl,ha1⟩ := len_cons ha0
    clear ha0
    obtain ⟨a1,xs2,rfl,ha2⟩ := len_cons ha1
    clear ha1
    obtain ⟨a2,xs3,rfl,ha3⟩ := len_cons ha2
    clear ha2
    obtain rfl := List.eq_nil_of_length_eq_zero ha3
    have hy0 : ys0.map List.length = [2,4,4] := hb
    clear hb
    obtain ⟨wh,ys1,rfl,hb0_0,hy1⟩ := map_cons' hy0
    clear hy0
    obtain ⟨c0_0,b0_1,rfl,hb0_1⟩ := len_cons hb0_0
    clear hb0_0
    obtain ⟨c0_1,z8,rfl,hb0_2⟩ := len_cons hb0_1
    clear hb0_1
    obtain rfl := List.eq_nil_of_length_eq_zero hb0_2
    obtain ⟨z4,ys2,rfl,hb1_0,hy2⟩ := map_cons' hy1
    clear hy1
    obtain ⟨c1_0,b1_1,rfl,hb1_1⟩ := len_cons hb1_0
    clear hb1_0
    obtain ⟨c1_1,qaq,rfl,hb1_2⟩ := len_cons hb1_1
    clear hb1_1
    obtain ⟨c1_2,b1_3,rfl,hb1_3⟩ := len_cons hb1_2
    clear hb1_2
    obtain ⟨c1_3,b1_4,rfl,hb1_4⟩ := len_cons hb1_3
    clear hb1_3
    obtain rfl := List.eq_nil_of_length_eq_zero hb1_4
    obtain ⟨v9,ys3,rfl,hb2_0,hy3⟩ := map_cons' hy2
    clear hy2
    obtain ⟨c2_0,b2_1,rfl,hb2_1⟩ := len_cons hb2_0
    clear hb2_0
    obtain ⟨c2_1,qdq,rfl,hb2_2⟩ := len_cons hb2_1
    clear hb2_1
    obtain ⟨c2_2,b2_3,rfl,hb2_3⟩ := len_cons hb2_2
    clear hb2_2
    obtain ⟨c2_3,b2_4,rfl,hb2_4⟩ := len_cons hb2_3
    clear hb2_3
    obtain rfl := List.eq_nil_of_length_eq_zero hb2_4
    obtain rfl := map_nil' hy3
    have h : mInt_Mul_bb vv qc qb qa fuel [a0,a1,a2,c0_0,c0_1,c1_0,c1_1,c1_2,c1_3,c2_0,c2_1,c2_2,c2_3] = some v := h
    generalize hx0 : [a0,a1,a2,c0_0,c0_1,c1_0,c1_1,c1_2,c1_3,c2_0,c2_1,c2_2,c2_3] = zs at h
    unfold mInt_Mul_bb at h
    split at h
    · skip
      obtain ⟨rfl,hx1⟩ := List.cons.inj hx0
      obtain ⟨rfl,hx2⟩ := List.cons.inj hx1
      obtain ⟨rfl,hx3⟩ := List.cons.inj hx2
      obtain ⟨rfl,hx4⟩ := List.cons.inj hx3
      obtain ⟨rfl,hx5⟩ := List.cons.inj hx4
      obtain ⟨rfl,hx6⟩ := List.cons.inj hx5
      obtain ⟨rfl,hx7⟩ := List.cons.inj hx6
      obtain ⟨rfl,hx8⟩ := List.cons.inj hx7
      obtain ⟨rfl,hx9⟩ := List.cons.inj hx8
      obtain ⟨rfl,hx10⟩ := List.cons.inj hx9
      obtain ⟨rfl,hx11⟩ := List.cons.inj hx10
      obtain ⟨rfl,hx12⟩ := List.cons.inj hx11
      obtain ⟨rfl,hx13⟩ := List.cons.inj hx12
      simp only [List.map_cons,List.map_nil]
      exact (gInt_Mul_bb_run vv qc qb qa fuel _ _ _ _ _ _ _ _ _ _ _ _ _ _ _ _ _ _ _ _).trans h
    · cases h
noncomputable def LInt_Mul_ab (vv qc : Mo) (qb qa : Mo) (fuel : Nat) : Lam AV := []
noncomputable def GInt_Mul_ab (vv qc : Mo) (qb qa : Mo) : Gam := [(134,smM [RS.one (LK.l (nat_lit 1))] vv),(133,smX RInt_give_i XInt_give_i qc),(133,smX RInt_give_ra XInt_give_ra qb),(133,smX RInt_give_rb XInt_give_rb qa)]
noncomputable def gInt_Mul_ab (vv qc : Mo) (qb qa : Mo) (fuel : Nat) (wh : Bool) (qr qz : Nat) (qy : Ge) (z4 : Bool) (w5 zl : Nat) (zm : Ge) (qaq : Bool) (qaa qad : Nat) (qac : Ge) (v9 : Bool) (z7 vf : Nat) (vg : Ge) (qdq : Bool) (qcz qc0 : Nat) (qcy : Ge) : Option AV :=
  let r0 : Option AV := vv [AV.ro 1 w5 zl zm,AV.ro 1 qcz qc0 qcy]; ck (okM [RS.one (LK.l 1)] r0) <| let r1 : Option AV := qc [AV.ptr (xidx 0 (xtoks [AV.ptr 0 0,AV.bool !z4 == qdq,AV.ro 1 (toN (getV r0)) (toR (getV r0)) (toG (getV r0))] [])) 0,AV.bool !z4 == qdq,AV.ro 1 (toN (getV r0)) (toR (getV r0)) (toG (getV r0)),AV.bool wh,AV.ro 1 qr qz qy]; ck (okX [RS.one LK.b,RS.one (LK.l 1)] r1) <| some (AV.tup [AV.bool (toB ((toT (getV r1)).headD .dead)),AV.ro 1 (toN ((toT (getV r1)).tail.headD .dead)) (toR ((toT (getV r1)).tail.headD .dead)) (toG ((toT (getV r1)).tail.headD .dead)),AV.bool z4,AV.ro 1 w5 zl zm,AV.bool qaq,AV.ro 1 qaa qad qac,AV.bool v9,AV.ro 1 z7 vf vg,AV.bool qdq,AV.ro 1 qcz qc0 qcy])
theorem gInt_Mul_ab_run (vv qc : Mo) (qb qa : Mo) (fuel : Nat) (wh : Bool) (qr qz : Nat) (qy : Ge) (z4 : Bool) (w5 zl : Nat) (zm : Ge) (qaq : Bool) (qaa qad : Nat) (qac : Ge) (v9 : Bool) (z7 vf : Nat) (vg : Ge) (qdq : Bool) (qcz qc0 : Nat) (qcy : Ge) : runX Pr (GInt_Mul_ab vv qc qb qa) [((6,75),LInt_Mul_ab vv qc qb qa fuel)] fuel 7 75 XInt_Mul_ab [AV.ptr 0 0,AV.ptr 1 0,AV.ptr 2 2] [Blk.box [AV.bool wh,AV.ro 1 qr qz qy],Blk.box [AV.bool z4,AV.ro 1 w5 zl zm,AV.bool qaq,AV.ro 1 qaa qad qac],Blk.box [AV.bool v9,AV.ro 1 z7 vf vg,AV.bool qdq,AV.ro 1 qcz qc0 qcy]] = gInt_Mul_ab vv qc qb qa fuel wh qr qz qy z4 w5 zl zm qaq qaa qad qac v9 z7 vf vg qdq qcz qc0 qcy := by kernel_rfl
noncomputable def mInt_Mul_ab (vv qc : Mo) (qb qa : Mo) (fuel : Nat) (xs : List AV) : Option AV := match xs with
  | [AV.ptr 0 0,AV.ptr 1 0,AV.ptr 2 2,AV.bool wh,AV.ro 1 qr qz qy,AV.bool z4,AV.ro 1 w5 zl zm,AV.bool qaq,AV.ro 1 qaa qad qac,AV.bool v9,AV.ro 1 z7 vf vg,AV.bool qdq,AV.ro 1 qcz qc0 qcy] => gInt_Mul_ab vv qc qb qa fuel wh qr qz qy z4 w5 zl zm qaq qaa qad qac v9 z7 vf vg qdq qcz qc0 qcy
  | _ => none
theorem gInt_Mul_ab_sm (vv qc : Mo) (qb qa : Mo) (fuel : Nat) (hΓ : GamOk Pr (GInt_Mul_ab vv qc qb qa)) (hP : NamesOk Pr) : XOk Pr 75 (smX RInt_Mul_ab XInt_Mul_ab (mInt_Mul_ab vv qc qb qa fuel)) XInt_Mul_ab := by
  refine smX_ok (fuel := fuel) hΓ hP (LamOk.of 6 75 (LInt_Mul_ab vv qc qb qa fuel) 0 (by kernel_rfl) (fun i hi => ?_)) 7 75 RInt_Mul_ab XInt_Mul_ab _ (fun xs0 ys0 v ha hb h => ?_)
  · match i,hi with
    | i + 0,hi => exact absurd hi (by omega)
  · skip
    have ha0 : xs0.length = 3 := ha
    clear ha
    obtain ⟨a0,xs1,rfl,ha1⟩ := len_cons ha0
    clear ha0
    obtain ⟨a1,xs2,rfl,ha2⟩ := len_cons ha1
    clear ha1
    obtain ⟨a2,xs3,rfl,ha3⟩ := len_cons ha2
    clear ha2
    obtain rfl := List.eq_nil_of_length_eq_zero ha3
    have hy0 : ys0.map List.length = [2,4,4] := hb
    clear hb
    obtain ⟨wh,ys1,rfl,hb0_0,hy1⟩ := map_cons' hy0
    clear hy0
    obtain ⟨c0_0,b0_1,rfl,hb0_1⟩ := len_cons hb0_0
    clear hb0_0
    obtain ⟨c0_1,z8,rfl,hb0_2⟩ := len_cons hb0_1
    clear hb0_1
    obtain rfl := List.eq_nil_of_length_eq_zero hb0_2
    obtain ⟨z4,ys2,rfl,hb1_0,hy2⟩ := map_cons' hy1
    clear hy1
    obtain ⟨c1_0,b1_1,rfl,hb1_1⟩ := len_cons hb1_0
    clear hb1_0
    obtain ⟨c1_1,qaq,rfl,hb1_2⟩ := len_cons hb1_1
    clear hb1_1
    obtain ⟨c1_2,b1_3,rfl,hb1_3⟩ := len_cons hb1_2
    clear hb1_2
    obtain ⟨c1_3,b1_4,rfl,hb1_4⟩ := len_cons hb1_3
    clear hb1_3
    obtain rfl := List.eq_nil_of_length_eq_zero hb1_4
    obtain ⟨v9,ys3,rfl,hb2_0,hy3⟩ := map_cons' hy2
    clear hy2
    obtain ⟨c2_0,b2_1,rfl,hb2_1⟩ := len_cons hb2_0
    clear hb2_0
    obtain ⟨c2_1,qdq,rfl,hb2_2⟩ := len_cons hb2_1
    clear hb2_1
    obtain ⟨c2_2,b2_3,rfl,hb2_3⟩ := len_cons hb2_2
    clear hb2_2
    obtain ⟨c2_3,b2_4,rfl,hb2_4⟩ := len_cons hb2_3
    clear hb2_3
    obtain rfl := List.eq_nil_of_length_eq_zero hb2_4
    obtain rfl := map_nil' hy3
    have h : mInt_Mul_ab vv qc qb qa fuel [a0,a1,a2,c0_0,c0_1,c1_0,c1_1,c1_2,c1_3,c2_0,c2_1,c2_2,c2_3] = some v := h
    generalize hx0 : [a0,a1,a2,c0_0,c0_1,c1_0,c1_1,c1_2,c1_3,c2_0,c2_1,c2_2,c2_3] = zs at h
    unfold mInt_Mul_ab at h
    split at h
    · skip
      obtain ⟨rfl,hx1⟩ := List.cons.inj hx0
      obtain ⟨rfl,hx2⟩ := List.cons.inj hx1
      obtain ⟨rfl,hx3⟩ := List.cons.inj hx2
      obtain ⟨rfl,hx4⟩ := List.cons.inj hx3
      obtain ⟨rfl,hx5⟩ := List.cons.inj hx4
      obtain ⟨rfl,hx6⟩ := List.cons.inj hx5
      obtain ⟨rfl,hx7⟩ := List.cons.inj hx6
      obtain ⟨rfl,hx8⟩ := List.cons.inj hx7
      obtain ⟨rfl,hx9⟩ := List.cons.inj hx8
      obtain ⟨rfl,hx10⟩ := List.cons.inj hx9
      obtain ⟨rfl,hx11⟩ := List.cons.inj hx10
      obtain ⟨rfl,hx12⟩ := List.cons.inj hx11
      obtain ⟨rfl,hx13⟩ := List.cons.inj hx12
      simp only [List.map_cons,List.map_nil]
      exact (gInt_Mul_ab_run vv qc qb qa fuel _ _ _ _ _ _ _ _ _ _ _ _ _ _ _ _ _ _ _ _).trans h
    · cases h
noncomputable def LInt_Mul_iii (vv qc : Mo) (qb qa : Mo) (fuel : Nat) : Lam AV := []
noncomputable def GInt_Mul_iii (vv qc : Mo) (qb qa : Mo) : Gam := [(134,smM [RS.one (LK.l (nat_lit 1))] vv),(133,smX RInt_give_i XInt_give_i qc),(133,smX RInt_give_ra XInt_give_ra qb),(133,smX RInt_give_rb XInt_give_rb qa)]
noncomputable def gInt_Mul_iii (vv qc : Mo) (qb qa : Mo) (fuel : Nat) (wh : Bool) (qr qz : Nat) (qy : Ge) (z4 : Bool) (w5 zl : Nat) (zm : Ge) (v9 : Bool) (z7 vf : Nat) (vg : Ge) : Option AV :=
  let r0 : Option AV := vv [AV.ro 1 w5 zl zm,AV.ro 1 z7 vf vg]; ck (okM [RS.one (LK.l 1)] r0) <| let r1 : Option AV := qc [AV.ptr (xidx 0 (xtoks [AV.ptr 0 0,AV.bool !z4 == v9,AV.ro 1 (toN (getV r0)) (toR (getV r0)) (toG (getV r0))] [])) 0,AV.bool !z4 == v9,AV.ro 1 (toN (getV r0)) (toR (getV r0)) (toG (getV r0)),AV.bool wh,AV.ro 1 qr qz qy]; ck (okX [RS.one LK.b,RS.one (LK.l 1)] r1) <| some (AV.tup [AV.bool (toB ((toT (getV r1)).headD .dead)),AV.ro 1 (toN ((toT (getV r1)).tail.headD .dead)) (toR ((toT (getV r1)).tail.headD .dead)) (toG ((toT (getV r1)).tail.headD .dead)),AV.bool z4,AV.ro 1 w5 zl zm,AV.bool v9,AV.ro 1 z7 vf vg])
theorem gInt_Mul_iii_run (vv qc : Mo) (qb qa : Mo) (fuel : Nat) (wh : Bool) (qr qz : Nat) (qy : Ge) (z4 : Bool) (w5 zl : Nat) (zm : Ge) (v9 : Bool) (z7 vf : Nat) (vg : Ge) : runX Pr (GInt_Mul_iii vv qc qb qa) [((6,75),LInt_Mul_iii vv qc qb qa fuel)] fuel 7 75 XInt_Mul_iii [AV.ptr 0 0,AV.ptr 1 0,AV.ptr 2 0] [Blk.box [AV.bool wh,AV.ro 1 qr qz qy],Blk.box [AV.bool z4,AV.ro 1 w5 zl zm],Blk.box [AV.bool v9,AV.ro 1 z7 vf vg]] = gInt_Mul_iii vv qc qb qa fuel wh qr qz qy z4 w5 zl zm v9 z7 vf vg := by kernel_rfl
noncomputable def mInt_Mul_iii (vv qc : Mo) (qb qa : Mo) (fuel : Nat) (xs : List AV) : Option AV := match xs with
  | [AV.ptr 0 0,AV.ptr 1 0,AV.ptr 2 0,AV.bool wh,AV.ro 1 qr qz qy,AV.bool z4,AV.ro 1 w5 zl zm,AV.bool v9,AV.ro 1 z7 vf vg] => gInt_Mul_iii vv qc qb qa fuel wh qr qz qy z4 w5 zl zm v9 z7 vf vg
  | _ => none
theorem gInt_Mul_iii_sm (vv qc : Mo) (qb qa : Mo) (fuel : Nat) (hΓ : GamOk Pr (GInt_Mul_iii vv qc qb qa)) (hP : NamesOk Pr) : XOk Pr 75 (smX RInt_Mul_iii XInt_Mul_iii (mInt_Mul_iii vv qc qb qa fuel)) XInt_Mul_iii := by
  refine smX_ok (fuel := fuel) hΓ hP (LamOk.of 6 75 (LInt_Mul_iii vv qc qb qa fuel) 0 (by kernel_rfl) (fun i hi => ?_)) 7 75 RInt_Mul_iii XInt_Mul_iii _ (fun xs0 ys0 v ha hb h => ?_)
  · match i,hi with
    | i + 0,hi => exact absurd hi (by omega)
  · skip
    have ha0 : xs0.length = 3 := ha
    clear ha
    obtain ⟨a0,xs1,rfl,ha1⟩ := len_cons ha0
    clear ha0
    obtain ⟨a1,xs2,rfl,ha2⟩ := len_cons ha1
    clear ha1
    obtain ⟨a2,xs3,rfl,ha3⟩ := len_cons ha2
    clear ha2
    obtain rfl := List.eq_nil_of_length_eq_zero ha3
    have hy0 : ys0.map List.length = [2,2,2] := hb
    clear hb
    obtain ⟨wh,ys1,rfl,hb0_0,hy1⟩ := map_cons' hy0
    clear hy0
    obtain ⟨c0_0,b0_1,rfl,hb0_1⟩ := len_cons hb0_0
    clear hb0_0
    obtain ⟨c0_1,z8,rfl,hb0_2⟩ := len_cons hb0_1
    clear hb0_1
    obtain rfl := List.eq_nil_of_length_eq_zero hb0_2
    obtain ⟨z4,ys2,rfl,hb1_0,hy2⟩ := map_cons' hy1
    clear hy1
    obtain ⟨c1_0,b1_1,rfl,hb1_1⟩ := len_cons hb1_0
    clear hb1_0
    obtain ⟨c1_1,qaq,rfl,hb1_2⟩ := len_cons hb1_1
    clear hb1_1
    obtain rfl := List.eq_nil_of_length_eq_zero hb1_2
    obtain ⟨v9,ys3,rfl,hb2_0,hy3⟩ := map_cons' hy2
    clear hy2
    obtain ⟨c2_0,b2_1,rfl,hb2_1⟩ := len_cons hb2_0
    clear hb2_0
    obtain ⟨c2_1,qdq,rfl,hb2_2⟩ := len_cons hb2_1
    clear hb2_1
    obtain rfl := List.eq_nil_of_length_eq_zero hb2_2
    obtain rfl := map_nil' hy3
    have h : mInt_Mul_iii vv qc qb qa fuel [a0,a1,a2,c0_0,c0_1,c1_0,c1_1,c2_0,c2_1] = some v := h
    generalize hx0 : [a0,a1,a2,c0_0,c0_1,c1_0,c1_1,c2_0,c2_1] = zs at h
    unfold mInt_Mul_iii at h
    split at h
    · skip
      obtain ⟨rfl,hx1⟩ := List.cons.inj hx0
      obtain ⟨rfl,hx2⟩ := List.cons.inj hx1
      obtain ⟨rfl,hx3⟩ := List.cons.inj hx2
      obtain ⟨rfl,hx4⟩ := List.cons.inj hx3
      obtain ⟨rfl,hx5⟩ := List.cons.inj hx4
      obtain ⟨rfl,hx6⟩ := List.cons.inj hx5
      obtain ⟨rfl,hx7⟩ := List.cons.inj hx6
      obtain ⟨rfl,hx8⟩ := List.cons.inj hx7
      obtain ⟨rfl,hx9⟩ := List.cons.inj hx8
      simp only [List.map_cons,List.map_nil]
      exact (gInt_Mul_iii_run vv qc qb qa fuel _ _ _ _ _ _ _ _ _ _ _ _).trans h
    · cases h
noncomputable def LInt_Mul_ri (vv qc : Mo) (qb qa : Mo) (fuel : Nat) : Lam AV := []
noncomputable def GInt_Mul_ri (vv qc : Mo) (qb qa : Mo) : Gam := [(134,smM [RS.one (LK.l (nat_lit 1))] vv),(133,smX RInt_give_i XInt_give_i qc),(133,smX RInt_give_ra XInt_give_ra qb),(133,smX RInt_give_rb XInt_give_rb qa)]
noncomputable def gInt_Mul_ri (vv qc : Mo) (qb qa : Mo) (fuel : Nat) (wh : Bool) (qr qz : Nat) (qy : Ge) (z4 : Bool) (w5 zl : Nat) (zm : Ge) (qaq : Bool) (qaa qad : Nat) (qac : Ge) (v9 : Bool) (z7 vf : Nat) (vg : Ge) : Option AV :=
  let r0 : Option AV := vv [AV.ro 1 w5 zl zm,AV.ro 1 z7 vf vg]; ck (okM [RS.one (LK.l 1)] r0) <| let r1 : Option AV := qc [AV.ptr (xidx 0 (xtoks [AV.ptr 0 0,AV.bool !z4 == v9,AV.ro 1 (toN (getV r0)) (toR (getV r0)) (toG (getV r0))] [])) 0,AV.bool !z4 == v9,AV.ro 1 (toN (getV r0)) (toR (getV r0)) (toG (getV r0)),AV.bool wh,AV.ro 1 qr qz qy]; ck (okX [RS.one LK.b,RS.one (LK.l 1)] r1) <| some (AV.tup [AV.bool (toB ((toT (getV r1)).headD .dead)),AV.ro 1 (toN ((toT (getV r1)).tail.headD .dead)) (toR ((toT (getV r1)).tail.headD .dead)) (toG ((toT (getV r1)).tail.headD .dead)),AV.bool z4,AV.ro 1 w5 zl zm,AV.bool qaq,AV.ro 1 qaa qad qac,AV.bool v9,AV.ro 1 z7 vf vg])
theorem gInt_Mul_ri_run (vv qc : Mo) (qb qa : Mo) (fuel : Nat) (wh : Bool) (qr qz : Nat) (qy : Ge) (z4 : Bool) (w5 zl : Nat) (zm : Ge) (qaq : Bool) (qaa qad : Nat) (qac : Ge) (v9 : Bool) (z7 vf : Nat) (vg : Ge) : runX Pr (GInt_Mul_ri vv qc qb qa) [((6,75),LInt_Mul_ri vv qc qb qa fuel)] fuel 7 75 XInt_Mul_ri [AV.ptr 0 0,AV.ptr 1 0,AV.ptr 2 0] [Blk.box [AV.bool wh,AV.ro 1 qr qz qy],Blk.box [AV.bool z4,AV.ro 1 w5 zl zm,AV.bool qaq,AV.ro 1 qaa qad qac],Blk.box [AV.bool v9,AV.ro 1 z7 vf vg]] = gInt_Mul_ri vv qc qb qa fuel wh qr qz qy z4 w5 zl zm qaq qaa qad qac v9 z7 vf vg := by kernel_rfl
noncomputable def mInt_Mul_ri (vv qc : Mo) (qb qa : Mo) (fuel : Nat) (xs : List AV) : Option AV := match xs with
  | [AV.ptr 0 0,AV.ptr 1 0,AV.ptr 2 0,AV.bool wh,AV.ro 1 qr qz qy,AV.bool z4,AV.ro 1 w5 zl zm,AV.bool qaq,AV.ro 1 qaa qad qac,AV.bool v9,AV.ro 1 z7 vf vg] => gInt_Mul_ri vv qc qb qa fuel wh qr qz qy z4 w5 zl zm qaq qaa qad qac v9 z7 vf vg
  | _ => none
theorem gInt_Mul_ri_sm (vv qc : Mo) (qb qa : Mo) (fuel : Nat) (hΓ : GamOk Pr (GInt_Mul_ri vv qc qb qa)) (hP : NamesOk Pr) : XOk Pr 75 (smX RInt_Mul_ri XInt_Mul_ri (mInt_Mul_ri vv qc qb qa fuel)) XInt_Mul_ri := by
  refine smX_ok (fuel := fuel) hΓ hP (LamOk.of 6 75 (LInt_Mul_ri vv qc qb qa fuel) 0 (by kernel_rfl) (fun i hi => ?_)) 7 75 RInt_Mul_ri XInt_Mul_ri _ (fun xs0 ys0 v ha hb h => ?_)
  · match i,hi with
    | i + 0,hi => exact absurd hi (by omega)
  · skip
    have ha0 : xs0.length = 3 := ha
    clear ha
    obtain ⟨a0,xs1,rfl,ha1⟩ := len_cons ha0
    clear ha0
    obtain ⟨a1,xs2,rfl,ha2⟩ := len_cons ha1
    clear ha1
    obtain ⟨a2,xs3,rfl,ha3⟩ := len_cons ha2
    clear ha2
    obtain rfl := List.eq_nil_of_length_eq_zero ha3
    have hy0 : ys0.map List.length = [2,4,2] := hb
    clear hb
    obtain ⟨wh,ys1,rfl,hb0_0,hy1⟩ := map_cons' hy0
    clear hy0
    obtain ⟨c0_0,b0_1,rfl,hb0_1⟩ := len_cons hb0_0
    clear hb0_0
    obtain ⟨c0_1,z8,rfl,hb0_2⟩ := len_cons hb0_1
    clear hb0_1
    obtain rfl := List.eq_nil_of_length_eq_zero hb0_2
    obtain ⟨z4,ys2,rfl,hb1_0,hy2⟩ := map_cons' hy1
    clear hy1
    obtain ⟨c1_0,b1_1,rfl,hb1_1⟩ := len_cons hb1_0
    clear hb1_0
    obtain ⟨c1_1,qaq,rfl,hb1_2⟩ := len_cons hb1_1
    clear hb1_1
    obtain ⟨c1_2,b1_3,rfl,hb1_3⟩ := len_cons hb1_2
    clear hb1_2
    obtain ⟨c1_3,b1_4,rfl,hb1_4⟩ := len_cons hb1_3
    clear hb1_3
    obtain rfl := List.eq_nil_of_length_eq_zero hb1_4
    obtain ⟨v9,ys3,rfl,hb2_0,hy3⟩ := map_cons' hy2
    clear hy2
    obtain ⟨c2_0,b2_1,rfl,hb2_1⟩ := len_cons hb2_0
    clear hb2_0
    obtain ⟨c2_1,qdq,rfl,hb2_2⟩ := len_cons hb2_1
    clear hb2_1
    obtain rfl := List.eq_nil_of_length_eq_zero hb2_2
    obtain rfl := map_nil' hy3
    have h : mInt_Mul_ri vv qc qb qa fuel [a0,a1,a2,c0_0,c0_1,c1_0,c1_1,c1_2,c1_3,c2_0,c2_1] = some v := h
    generalize hx0 : [a0,a1,a2,c0_0,c0_1,c1_0,c1_1,c1_2,c1_3,c2_0,c2_1] = zs at h
    unfold mInt_Mul_ri at h
    split at h
    · skip
      obtain ⟨rfl,hx1⟩ := List.cons.inj hx0
      obtain ⟨rfl,hx2⟩ := List.cons.inj hx1
      obtain ⟨rfl,hx3⟩ := List.cons.inj hx2
      obtain ⟨rfl,hx4⟩ := List.cons.inj hx3
      obtain ⟨rfl,hx5⟩ := List.cons.inj hx4
      obtain ⟨rfl,hx6⟩ := List.cons.inj hx5
      obtain ⟨rfl,hx7⟩ := List.cons.inj hx6
      obtain ⟨rfl,hx8⟩ := List.cons.inj hx7
      obtain ⟨rfl,hx9⟩ := List.cons.inj hx8
      obtain ⟨rfl,hx10⟩ := List.cons.inj hx9
      obtain ⟨rfl,hx11⟩ := List.cons.inj hx10
      simp only [List.map_cons,List.map_nil]
      exact (gInt_Mul_ri_run vv qc qb qa fuel _ _ _ _ _ _ _ _ _ _ _ _ _ _ _ _).trans h
    · cases h
noncomputable def LInt_Mul_ir (vv qc : Mo) (qb qa : Mo) (fuel : Nat) : Lam AV := []
noncomputable def GInt_Mul_ir (vv qc : Mo) (qb qa : Mo) : Gam := [(134,smM [RS.one (LK.l (nat_lit 1))] vv),(133,smX RInt_give_i XInt_give_i qc),(133,smX RInt_give_ra XInt_give_ra qb),(133,smX RInt_give_rb XInt_give_rb qa)]
noncomputable def gInt_Mul_ir (vv qc : Mo) (qb qa : Mo) (fuel : Nat) (wh : Bool) (qr qz : Nat) (qy : Ge) (z4 : Bool) (w5 zl : Nat) (zm : Ge) (v9 : Bool) (z7 vf : Nat) (vg : Ge) (qdq : Bool) (qcz qc0 : Nat) (qcy : Ge) : Option AV :=
  let r0 : Option AV := vv [AV.ro 1 w5 zl zm,AV.ro 1 qcz qc0 qcy]; ck (okM [RS.one (LK.l 1)] r0) <| let r1 : Option AV := qc [AV.ptr (xidx 0 (xtoks [AV.ptr 0 0,AV.bool !z4 == qdq,AV.ro 1 (toN (getV r0)) (toR (getV r0)) (toG (getV r0))] [])) 0,AV.bool !z4 == qdq,AV.ro 1 (toN (getV r0)) (toR (getV r0)) (toG (getV r0)),AV.bool wh,AV.ro 1 qr qz qy]; ck (okX [RS.one LK.b,RS.one (LK.l 1)] r1) <| some (AV.tup [AV.bool (toB ((toT (getV r1)).headD .dead)),AV.ro 1 (toN ((toT (getV r1)).tail.headD .dead)) (toR ((toT (getV r1)).tail.headD .dead)) (toG ((toT (getV r1)).tail.headD .dead)),AV.bool z4,AV.ro 1 w5 zl zm,AV.bool v9,AV.ro 1 z7 vf vg,AV.bool qdq,AV.ro 1 qcz qc0 qcy])
theorem gInt_Mul_ir_run (vv qc : Mo) (qb qa : Mo) (fuel : Nat) (wh : Bool) (qr qz : Nat) (qy : Ge) (z4 : Bool) (w5 zl : Nat) (zm : Ge) (v9 : Bool) (z7 vf : Nat) (vg : Ge) (qdq : Bool) (qcz qc0 : Nat) (qcy : Ge) : runX Pr (GInt_Mul_ir vv qc qb qa) [((6,75),LInt_Mul_ir vv qc qb qa fuel)] fuel 7 75 XInt_Mul_ir [AV.ptr 0 0,AV.ptr 1 0,AV.ptr 2 2] [Blk.box [AV.bool wh,AV.ro 1 qr qz qy],Blk.box [AV.bool z4,AV.ro 1 w5 zl zm],Blk.box [AV.bool v9,AV.ro 1 z7 vf vg,AV.bool qdq,AV.ro 1 qcz qc0 qcy]] = gInt_Mul_ir vv qc qb qa fuel wh qr qz qy z4 w5 zl zm v9 z7 vf vg qdq qcz qc0 qcy := by kernel_rfl
noncomputable def mInt_Mul_ir (vv qc : Mo) (qb qa : Mo) (fuel : Nat) (xs : List AV) : Option AV := match xs with
  | [AV.ptr 0 0,AV.ptr 1 0,AV.ptr 2 2,AV.bool wh,AV.ro 1 qr qz qy,AV.bool z4,AV.ro 1 w5 zl zm,AV.bool v9,AV.ro 1 z7 vf vg,AV.bool qdq,AV.ro 1 qcz qc0 qcy] => gInt_Mul_ir vv qc qb qa fuel wh qr qz qy z4 w5 zl zm v9 z7 vf vg qdq qcz qc0 qcy
  | _ => none
theorem gInt_Mul_ir_sm (vv qc : Mo) (qb qa : Mo) (fuel : Nat) (hΓ : GamOk Pr (GInt_Mul_ir vv qc qb qa)) (hP : NamesOk Pr) : XOk Pr 75 (smX RInt_Mul_ir XInt_Mul_ir (mInt_Mul_ir vv qc qb qa fuel)) XInt_Mul_ir := by
  refine smX_ok (fuel := fuel) hΓ hP (LamOk.of 6 75 (LInt_Mul_ir vv qc qb qa fuel) 0 (by kernel_rfl) (fun i hi => ?_)) 7 75 RInt_Mul_ir XInt_Mul_ir _ (fun xs0 ys0 v ha hb h => ?_)
  · match i,hi with
    | i + 0,hi => exact absurd hi (by omega)
  · skip
    have ha0 : xs0.length = 3 := ha
    clear ha
    obtain ⟨a0,xs1,rfl,ha1⟩ := len_cons ha0
    clear ha0
    obtain ⟨a1,xs2,rfl,ha2⟩ := len_cons ha1
    clear ha1
    obtain ⟨a2,xs3,rfl,ha3⟩ := len_cons ha2
    clear ha2
    obtain rfl := List.eq_nil_of_length_eq_zero ha3
    have hy0 : ys0.map List.length = [2,2,4] := hb
    clear hb
    obtain ⟨wh,ys1,rfl,hb0_0,hy1⟩ := map_cons' hy0
    clear hy0
    obtain ⟨c0_0,b0_1,rfl,hb0_1⟩ := len_cons hb0_0
    clear hb0_0
    obtain ⟨c0_1,z8,rfl,hb0_2⟩ := len_cons hb0_1
    clear hb0_1
    obtain rfl := List.eq_nil_of_length_eq_zero hb0_2
    obtain ⟨z4,ys2,rfl,hb1_0,hy2⟩ := map_cons' hy1
    clear hy1
    obtain ⟨c1_0,b1_1,rfl,hb1_1⟩ := len_cons hb1_0
    clear hb1_0
    obtain ⟨c1_1,qaq,rfl,hb1_2⟩ := len_cons hb1_1
    clear hb1_1
    obtain rfl := List.eq_nil_of_length_eq_zero hb1_2
    obtain ⟨v9,ys3,rfl,hb2_0,hy3⟩ := map_cons' hy2
    clear hy2
    obtain ⟨c2_0,b2_1,rfl,hb2_1⟩ := len_cons hb2_0
    clear hb2_0
    obtain ⟨c2_1,qdq,rfl,hb2_2⟩ := len_cons hb2_1
    clear hb2_1
    obtain ⟨c2_2,b2_3,rfl,hb2_3⟩ := len_cons hb2_2
    clear hb2_2
    obtain ⟨c2_3,b2_4,rfl,hb2_4⟩ := len_cons hb2_3
    clear hb2_3
    obtain rfl := List.eq_nil_of_length_eq_zero hb2_4
    obtain rfl := map_nil' hy3
    have h : mInt_Mul_ir vv qc qb qa fuel [a0,a1,a2,c0_0,c0_1,c1_0,c1_1,c2_0,c2_1,c2_2,c2_3] = some v := h
    generalize hx0 : [a0,a1,a2,c0_0,c0_1,c1_0,c1_1,c2_0,c2_1,c2_2,c2_3] = zs at h
    unfold mInt_Mul_ir at h
    split at h
    · skip
      obtain ⟨rfl,hx1⟩ := List.cons.inj hx0
      obtain ⟨rfl,hx2⟩ := List.cons.inj hx1
      obtain ⟨rfl,hx3⟩ := List.cons.inj hx2
      obtain ⟨rfl,hx4⟩ := List.cons.inj hx3
      obtain ⟨rfl,hx5⟩ := List.cons.inj hx4
      obtain ⟨rfl,hx6⟩ := List.cons.inj hx5
      obtain ⟨rfl,hx7⟩ := List.cons.inj hx6
      obtain ⟨rfl,hx8⟩ := List.cons.inj hx7
      obtain ⟨rfl,hx9⟩ := List.cons.inj hx8
      obtain ⟨rfl,hx10⟩ := List.cons.inj hx9
      obtain ⟨rfl,hx11⟩ := List.cons.inj hx10
      simp only [List.map_cons,List.map_nil]
      exact (gInt_Mul_ir_run vv qc qb qa fuel _ _ _ _ _ _ _ _ _ _ _ _ _ _ _ _).trans h
    · cases h
noncomputable def SInt_SetBytes_a_0 (wj wn : Nat) (wi : Ge) (v5 qie : Nat) (qij : Ge) (ui6 : Int) (wx : Bool) (qu qx : Nat) (qw : Ge) : St := { env := [(0,AV.ptr 0 0),(1,AV.ro 1 wj wn wi),(5,AV.ro 1 v5 qie qij),(6,AV.int .i64 ui6)],h := [Blk.box [AV.bool wx,AV.ro 1 qu qx qw]],kd := [] }
noncomputable def XInt_SetBytes_a_0_0 (qds qpc : Nat) (qql : Ge) (vm : Bool) (vl vk : Nat) (vi : Ge) : St := { env := [(0,AV.ptr 0 0),(5,AV.ro 1 qds qpc qql)],h := [Blk.box [AV.bool vm,AV.ro 1 vl vk vi]],kd := [] }
noncomputable def gInt_SetBytes_a_l0_step (wd qj : Mo) (v2 qc : Mo) (qb qa : Mo) (fuel : Nat) (kn : Nat → Nat → Ge → Int → Option AV) (kx0 : Nat → Nat → Ge → Bool → Nat → Nat → Ge → Option AV) (wj wn : Nat) (wi : Ge) (wx : Bool) (qu qx : Nat) (qw : Ge) (v5 qie : Nat) (qij : Ge) (ui6 : Int) : Option AV :=
  bif decide (ui6 < (↑wj : Int)) then let r0 : Option AV := wd [AV.ro 1 v5 qie qij,AV.int .u64 8]; ck (okM [RS.one (LK.l 1)] r0) <| ck (decide (0 ≤ ui6)) <| ck (decide (ui6 < (↑wj : Int))) <| ck (fitK (LK.i .u8) (wi ui6.toNat 0)) <| let r1 : Option AV := qj [AV.int .u64 (IntKind.u64.wrap (toI (wi ui6.toNat 0)))]; ck (okM [RS.one (LK.l 1)] r1) <| let r2 : Option AV := v2 [AV.ro 1 (toN (getV r0)) (toR (getV r0)) (toG (getV r0)),AV.ro 1 (toN (getV r1)) (toR (getV r1)) (toG (getV r1))]; ck (okM [RS.one (LK.l 1)] r2) <| kn (toN (getV r2)) (toR (getV r2)) (toG (getV r2)) (IntKind.i64.wrap (ui6 + 1))
  else kx0 v5 qie qij wx qu qx qw
noncomputable def gInt_SetBytes_a_l0 (wd qj : Mo) (v2 qc : Mo) (qb qa : Mo) (fuel : Nat) (kx0 : Nat → Nat → Ge → Bool → Nat → Nat → Ge → Option AV) (wj wn : Nat) (wi : Ge) (wx : Bool) (qu qx : Nat) (qw : Ge) : Nat → Nat → Nat → Ge → Int → Option AV
  | 0,_,_,_,_ => none
  | n' + 1,v5,qie,qij,ui6 => gInt_SetBytes_a_l0_step wd qj v2 qc qb qa fuel (gInt_SetBytes_a_l0 wd qj v2 qc qb qa fuel kx0 wj wn wi wx qu qx qw n') kx0 wj wn wi wx qu qx qw v5 qie qij ui6
noncomputable def TInt_SetBytes_a_0 : TS' := ⟨[(0,TA.ptr 0 0),(1,TA.ro 1),(5,TA.ro 1),(6,TA.i .i64)],[TB.box [TA.b,TA.ro 1]],[]⟩
noncomputable def FInt_SetBytes_a_0 (wd qj : Mo) (v2 qc : Mo) (qb qa : Mo) (fuel : Nat) (ps : List Pay) (K : Ex → St → Option AV) : Option AV := match ps with
  | .n wj :: .n wn :: .g wi :: .n v5 :: .n qie :: .g qij :: .i ui6 :: .b wx :: .n qu :: .n qx :: .g qw :: [] => gInt_SetBytes_a_l0 wd qj v2 qc qb qa fuel (fun qds qpc qql vm vl vk vi => K (Ex.exit 0) (XInt_SetBytes_a_0_0 qds qpc qql vm vl vk vi)) wj wn wi wx qu qx qw fuel v5 qie qij ui6
  | _ => none
noncomputable def LInt_SetBytes_a (wd qj : Mo) (v2 qc : Mo) (qb qa : Mo) (fuel : Nat) : Lam AV := [(4194272,lam TInt_SetBytes_a_0 (FInt_SetBytes_a_0 wd qj v2 qc qb qa fuel))]
noncomputable def GInt_SetBytes_a (wd qj : Mo) (v2 qc : Mo) (qb qa : Mo) : Gam := [(138,smM [RS.one (LK.l (nat_lit 1))] wd),(194,smM [RS.one (LK.l (nat_lit 1))] qj),(143,smM [RS.one (LK.l (nat_lit 1))] v2),(133,smX RInt_give_i XInt_give_i qc),(133,smX RInt_give_ra XInt_give_ra qb),(133,smX RInt_give_rb XInt_give_rb qa)]
theorem gInt_SetBytes_a_l0_eq (wd qj : Mo) (v2 qc : Mo) (qb qa : Mo) (fuel : Nat) (kn : St → Option AV) (K : Ex → St → Option AV) (wj wn : Nat) (wi : Ge) (wx : Bool) (qu qx : Nat) (qw : Ge) (qim qo1 : Nat) (qol : Ge) (qk9 : Int) (v5 qie : Nat) (qij : Ge) (ui6 : Int) :
    bX Pr (GInt_SetBytes_a wd qj v2 qc qb qa) (LInt_SetBytes_a wd qj v2 qc qb qa fuel) 6 136 0 fuel (SInt_SetBytes_a_0 wj wn wi v5 qie qij ui6 wx qu qx qw) (fun e s => match e with | .normal => kn (hX Pr 136 0 (SInt_SetBytes_a_0 wj wn wi qim qo1 qol qk9 wx qu qx qw) s) | e => K e s) =
    gInt_SetBytes_a_l0_step wd qj v2 qc qb qa fuel (fun v5 qie qij ui6 => kn (SInt_SetBytes_a_0 wj wn wi v5 qie qij ui6 wx qu qx qw)) (fun pr qly ql1 z9 zb za w9 => K (Ex.exit 0) (XInt_SetBytes_a_0_0 pr qly ql1 z9 zb za w9)) wj wn wi wx qu qx qw v5 qie qij ui6 := by kernel_rfl
theorem gInt_SetBytes_a_l0_ok (wd qj : Mo) (v2 qc : Mo) (qb qa : Mo) (fuel : Nat) (K : Ex → St → Option AV) (wj wn : Nat) (wi : Ge) (wx : Bool) (qu qx : Nat) (qw : Ge) (qim qo1 : Nat) (qol : Ge) (qk9 : Int) : ∀ (n' v5 qie : Nat) (qij : Ge) (ui6 : Int),
    loopK (bX Pr (GInt_SetBytes_a wd qj v2 qc qb qa) (LInt_SetBytes_a wd qj v2 qc qb qa fuel) 6 136 0 fuel) (hX Pr 136 0 (SInt_SetBytes_a_0 wj wn wi qim qo1 qol qk9 wx qu qx qw)) n' (SInt_SetBytes_a_0 wj wn wi v5 qie qij ui6 wx qu qx qw) K = gInt_SetBytes_a_l0 wd qj v2 qc qb qa fuel (fun pr qly ql1 z9 zb za w9 => K (Ex.exit 0) (XInt_SetBytes_a_0_0 pr qly ql1 z9 zb za w9)) wj wn wi wx qu qx qw n' v5 qie qij ui6
  | 0,_,_,_,_ => rfl
  | n' + 1,v5,qie,qij,ui6 => (gInt_SetBytes_a_l0_eq wd qj v2 qc qb qa fuel (fun s => loopK (bX Pr (GInt_SetBytes_a wd qj v2 qc qb qa) (LInt_SetBytes_a wd qj v2 qc qb qa fuel) 6 136 0 fuel) (hX Pr 136 0 (SInt_SetBytes_a_0 wj wn wi qim qo1 qol qk9 wx qu qx qw)) n' s K) K wj wn wi wx qu qx qw qim qo1 qol qk9 v5 qie qij ui6).trans
    (congrArg (fun kn => gInt_SetBytes_a_l0_step wd qj v2 qc qb qa fuel kn _ wj wn wi wx qu qx qw v5 qie qij ui6) (funext fun v5 => funext fun qie => funext fun qij => funext fun ui6 => gInt_SetBytes_a_l0_ok wd qj v2 qc qb qa fuel K wj wn wi wx qu qx qw qim qo1 qol qk9 n' v5 qie qij ui6))
theorem gInt_SetBytes_a_L0 (wd qj : Mo) (v2 qc : Mo) (qb qa : Mo) (fuel : Nat) : LX Pr (GInt_SetBytes_a wd qj v2 qc qb qa) (LInt_SetBytes_a wd qj v2 qc qb qa fuel) 6 136 0 fuel := by
  refine .of TInt_SetBytes_a_0 (FInt_SetBytes_a_0 wd qj v2 qc qb qa fuel) (fun L h => ?_) (fun ps st K r he hr => ?_)
  · have e : (LInt_SetBytes_a wd qj v2 qc qb qa fuel).get (writes (lp Pr 136 0).1) = some (lam TInt_SetBytes_a_0 (FInt_SetBytes_a_0 wd qj v2 qc qb qa fuel)) := by kernel_rfl
    exact (Option.some.inj (e.symm.trans h)).symm
  · unfold FInt_SetBytes_a_0 at hr
    split at hr
    · obtain rfl := (Option.some.inj he).symm
      exact (gInt_SetBytes_a_l0_ok wd qj v2 qc qb qa fuel K _ _ _ _ _ _ _ _ _ _ _ fuel _ _ _ _).trans hr
    · cases hr
noncomputable def gInt_SetBytes_a (wd qj : Mo) (v2 qc : Mo) (qb qa : Mo) (fuel ym pp : Nat) (pi : Ge) (wh : Bool) (qr qz : Nat) (qy : Ge) : Option AV :=
  gInt_SetBytes_a_l0 wd qj v2 qc qb qa fuel
    (fun (pr qly : Nat) (ql1 : Ge) (z9 : Bool) (zb za : Nat) (w9 : Ge) => let r3 : Option AV := qc [AV.ptr (xidx 0 (xtoks [AV.ptr 0 0,AV.bool false,AV.ro 1 pr qly ql1] [])) 0,AV.bool false,AV.ro 1 pr qly ql1,AV.bool z9,AV.ro 1 zb za w9]; ck (okX [RS.one LK.b,RS.one (LK.l 1)] r3) <| some (AV.tup [AV.bool (toB ((toT (getV r3)).headD .dead)),AV.ro 1 (toN ((toT (getV r3)).tail.headD .dead)) (toR ((toT (getV r3)).tail.headD .dead)) (toG ((toT (getV r3)).tail.headD .dead))]))
    ym
    pp
    pi
    wh
    qr
    qz
    qy fuel (0) (0) (fun (x j : Nat) => [AV.int .u32 0].getD j AV.dead) (0)
theorem gInt_SetBytes_a_run (wd qj : Mo) (v2 qc : Mo) (qb qa : Mo) (fuel ym pp : Nat) (pi : Ge) (wh : Bool) (qr qz : Nat) (qy : Ge) : runX Pr (GInt_SetBytes_a wd qj v2 qc qb qa) [((6,136),LInt_SetBytes_a wd qj v2 qc qb qa fuel)] fuel 7 136 XInt_SetBytes_a [AV.ptr 0 0,AV.ro 1 ym pp pi] [Blk.box [AV.bool wh,AV.ro 1 qr qz qy]] = gInt_SetBytes_a wd qj v2 qc qb qa fuel ym pp pi wh qr qz qy := by kernel_rfl
noncomputable def mInt_SetBytes_a (wd qj : Mo) (v2 qc : Mo) (qb qa : Mo) (fuel : Nat) (xs : List AV) : Option AV := match xs with
  | [AV.ptr 0 0,AV.ro 1 ym pp pi,AV.bool wh,AV.ro 1 qr qz qy] => gInt_SetBytes_a wd qj v2 qc qb qa fuel ym pp pi wh qr qz qy
  | _ => none
theorem gInt_SetBytes_a_sm (wd qj : Mo) (v2 qc : Mo) (qb qa : Mo) (fuel : Nat) (hΓ : GamOk Pr (GInt_SetBytes_a wd qj v2 qc qb qa)) (hP : NamesOk Pr) : XOk Pr 136 (smX RInt_SetBytes_a XInt_SetBytes_a (mInt_SetBytes_a wd qj v2 qc qb qa fuel)) XInt_SetBytes_a := by
  refine smX_ok (fuel := fuel) hΓ hP (LamOk.of 6 136 (LInt_SetBytes_a wd qj v2 qc qb qa fuel) 1 (by kernel_rfl) (fun i hi => ?_)) 7 136 RInt_SetBytes_a XInt_SetBytes_a _ (fun xs0 ys0 v ha hb h => ?_)
  · match i,hi with
    | 0,_ => exact gInt_SetBytes_a_L0 wd qj v2 qc qb qa fuel
    | i + 1,hi => exact absurd hi (by omega)
  · skip
    have ha0 : xs0.length = 2 := ha
    clear ha
    obtain ⟨a0,xs1,rfl,ha1⟩ := len_cons ha0
    clear ha0
    obtain ⟨a1,xs2,rfl,ha2⟩ := len_cons ha1
    clear ha1
    obtain rfl := List.eq_nil_of_length_eq_zero ha2
    have hy0 : ys0.map List.length = [2] := hb
    clear hb
    obtain ⟨wh,ys1,rfl,hb0_0,hy1⟩ := map_cons' hy0
    clear hy0
    obtain ⟨c0_0,b0_1,rfl,hb0_1⟩ := len_cons hb0_0
    clear hb0_0
    obtain ⟨c0_1,z8,rfl,hb0_2⟩ := len_cons hb0_1
    clear hb0_1
    obtain rfl := List.eq_nil_of_length_eq_zero hb0_2
    obtain rfl := map_nil' hy1
    have h : mInt_SetBytes_a wd qj v2 qc qb qa fuel [a0,a1,c0_0,c0_1] = some v := h
    generalize hx0 : [a0,a1,c0_0,c0_1] = zs at h
    unfold mInt_SetBytes_a at h
    split at h
    · skip
      obtain ⟨rfl,hx1⟩ := List.cons.inj hx0
      obtain ⟨rfl,hx2⟩ := List.cons.inj hx1
      obtain ⟨rfl,hx3⟩ := List.cons.inj hx2
      obtain ⟨rfl,hx4⟩ := List.cons.inj hx3
      simp only [List.map_cons,List.map_nil]
      exact (gInt_SetBytes_a_run wd qj v2 qc qb qa fuel _ _ _ _ _ _ _).trans h
    · cases h
noncomputable def Sexact_Whole_a_0 (y1 y5 : Nat) (yq : Ge) (qhd qf7 qib : Nat) (u11 u12 : Int) (h0z : List AV) (h0e : List (List AV)) : St := { env := [(0,AV.ro 1 y1 y5 yq),(3,AV.own 0 qhd 1 qf7 qib),(11,AV.int .i64 u11),(12,AV.int .i64 u12)],h := [Blk.fx 1 h0z h0e],kd := [] }
noncomputable def Xexact_Whole_a_0_0 (qqq qqn qq1 : Nat) (yp : List AV) (yr : List (List AV)) : St := { env := [(3,AV.own 0 qqq 1 qqn qq1)],h := [Blk.fx 1 yp yr],kd := [] }
noncomputable def gexact_Whole_a_l0_step (wl : Mo) (fuel : Nat) (kn : Int → List (List AV) → Option AV) (kx0 : Nat → Nat → Nat → List AV → List (List AV) → Option AV) (y1 y5 : Nat) (yq : Ge) (qhd qf7 qib : Nat) (u11 : Int) (h0z : List AV) (u12 : Int) (h0e : List (List AV)) : Option AV :=
  bif decide (u12 < u11) then ck (decide (0 ≤ IntKind.i64.wrap ((IntKind.i64.wrap (IntKind.i64.wrap ((↑qf7 : Int) - 1) - u12)).tdiv 8))) <| ck (decide (IntKind.i64.wrap ((IntKind.i64.wrap (IntKind.i64.wrap ((↑qf7 : Int) - 1) - u12)).tdiv 8) < (↑y1 : Int))) <| ck (fitK (LK.i .u64) (yq (IntKind.i64.wrap ((IntKind.i64.wrap (IntKind.i64.wrap ((↑qf7 : Int) - 1) - u12)).tdiv 8)).toNat 0)) <| ck (decide (0 ≤ IntKind.i64.wrap (8 * (IntKind.i64.wrap (IntKind.i64.wrap ((↑qf7 : Int) - 1) - u12)).tmod 8))) <| ck (decide (0 ≤ u12)) <| ck (decide (u12 < (↑qf7 : Int))) <| kn (IntKind.i64.wrap (u12 + 1)) (h0e.set (qhd + u12.toNat) (AV.int .u8 (IntKind.u8.wrap ((toI (yq (IntKind.i64.wrap ((IntKind.i64.wrap (IntKind.i64.wrap ((↑qf7 : Int) - 1) - u12)).tdiv 8)).toNat 0)).fdiv (2 ^ min (IntKind.i64.wrap (8 * (IntKind.i64.wrap (IntKind.i64.wrap ((↑qf7 : Int) - 1) - u12)).tmod 8)).toNat 64))) :: List.drop (0 + [AV.int .u8 (IntKind.u8.wrap ((toI (yq (IntKind.i64.wrap ((IntKind.i64.wrap (IntKind.i64.wrap ((↑qf7 : Int) - 1) - u12)).tdiv 8)).toNat 0)).fdiv (2 ^ min (IntKind.i64.wrap (8 * (IntKind.i64.wrap (IntKind.i64.wrap ((↑qf7 : Int) - 1) - u12)).tmod 8)).toNat 64)))].length) (h0e.getD (qhd + u12.toNat) h0z)))
  else kx0 qhd qf7 qib h0z h0e
noncomputable def gexact_Whole_a_l0 (wl : Mo) (fuel : Nat) (kx0 : Nat → Nat → Nat → List AV → List (List AV) → Option AV) (y1 y5 : Nat) (yq : Ge) (qhd qf7 qib : Nat) (u11 : Int) (h0z : List AV) : Nat → Int → List (List AV) → Option AV
  | 0,_,_ => none
  | n' + 1,u12,h0e => gexact_Whole_a_l0_step wl fuel (gexact_Whole_a_l0 wl fuel kx0 y1 y5 yq qhd qf7 qib u11 h0z n') kx0 y1 y5 yq qhd qf7 qib u11 h0z u12 h0e
noncomputable def Texact_Whole_a_0 : TS' := ⟨[(0,TA.ro 1),(3,TA.own 0 1),(11,TA.i .i64),(12,TA.i .i64)],[TB.fx 1],[]⟩
noncomputable def Fexact_Whole_a_0 (wl : Mo) (fuel : Nat) (ps : List Pay) (K : Ex → St → Option AV) : Option AV := match ps with
  | .n y1 :: .n y5 :: .g yq :: .n qhd :: .n qf7 :: .n qib :: .i u11 :: .i u12 :: .z h0z :: .e h0e :: [] => gexact_Whole_a_l0 wl fuel (fun qqq qqn qq1 yp yr => K (Ex.exit 0) (Xexact_Whole_a_0_0 qqq qqn qq1 yp yr)) y1 y5 yq qhd qf7 qib u11 h0z fuel u12 h0e
  | _ => none
noncomputable def Lexact_Whole_a (wl : Mo) (fuel : Nat) : Lam AV := [(17179865136,lam Texact_Whole_a_0 (Fexact_Whole_a_0 wl fuel))]
noncomputable def Gexact_Whole_a (wl : Mo) : Gam := [(136,smX RInt_SetBytes_a XInt_SetBytes_a wl)]
theorem gexact_Whole_a_l0_eq (wl : Mo) (fuel : Nat) (kn : St → Option AV) (K : Ex → St → Option AV) (y1 y5 : Nat) (yq : Ge) (qhd qf7 qib : Nat) (u11 : Int) (h0z : List AV) (qko : Int) (pj : List (List AV)) (u12 : Int) (h0e : List (List AV)) :
    bX Pr (Gexact_Whole_a wl) (Lexact_Whole_a wl fuel) 6 78 0 fuel (Sexact_Whole_a_0 y1 y5 yq qhd qf7 qib u11 u12 h0z h0e) (fun e s => match e with | .normal => kn (hX Pr 78 0 (Sexact_Whole_a_0 y1 y5 yq qhd qf7 qib u11 qko h0z pj) s) | e => K e s) =
    gexact_Whole_a_l0_step wl fuel (fun u12 h0e => kn (Sexact_Whole_a_0 y1 y5 yq qhd qf7 qib u11 u12 h0z h0e)) (fun qlx ql0 qlz v1 v0 => K (Ex.exit 0) (Xexact_Whole_a_0_0 qlx ql0 qlz v1 v0)) y1 y5 yq qhd qf7 qib u11 h0z u12 h0e := by kernel_rfl
theorem gexact_Whole_a_l0_ok (wl : Mo) (fuel : Nat) (K : Ex → St → Option AV) (y1 y5 : Nat) (yq : Ge) (qhd qf7 qib : Nat) (u11 : Int) (h0z : List AV) (qko : Int) (pj : List (List AV)) : ∀ (n' : Nat) (u12 : Int) (h0e : List (List AV)),
    loopK (bX Pr (Gexact_Whole_a wl) (Lexact_Whole_a wl fuel) 6 78 0 fuel) (hX Pr 78 0 (Sexact_Whole_a_0 y1 y5 yq qhd qf7 qib u11 qko h0z pj)) n' (Sexact_Whole_a_0 y1 y5 yq qhd qf7 qib u11 u12 h0z h0e) K = gexact_Whole_a_l0 wl fuel (fun qlx ql0 qlz v1 v0 => K (Ex.exit 0) (Xexact_Whole_a_0_0 qlx ql0 qlz v1 v0)) y1 y5 yq qhd qf7 qib u11 h0z n' u12 h0e
  | 0,_,_ => rfl
  | n' + 1,u12,h0e => (gexact_Whole_a_l0_eq wl fuel (fun s => loopK (bX Pr (Gexact_Whole_a wl) (Lexact_Whole_a wl fuel) 6 78 0 fuel) (hX Pr 78 0 (Sexact_Whole_a_0 y1 y5 yq qhd qf7 qib u11 qko h0z pj)) n' s K) K y1 y5 yq qhd qf7 qib u11 h0z qko pj u12 h0e).trans
    (congrArg (fun kn => gexact_Whole_a_l0_step wl fuel kn _ y1 y5 yq qhd qf7 qib u11 h0z u12 h0e) (funext fun u12 => funext fun h0e => gexact_Whole_a_l0_ok wl fuel K y1 y5 yq qhd qf7 qib u11 h0z qko pj n' u12 h0e))
theorem gexact_Whole_a_L0 (wl : Mo) (fuel : Nat) : LX Pr (Gexact_Whole_a wl) (Lexact_Whole_a wl fuel) 6 78 0 fuel := by
  refine .of Texact_Whole_a_0 (Fexact_Whole_a_0 wl fuel) (fun L h => ?_) (fun ps st K r he hr => ?_)
  · have e : (Lexact_Whole_a wl fuel).get (writes (lp Pr 78 0).1) = some (lam Texact_Whole_a_0 (Fexact_Whole_a_0 wl fuel)) := by kernel_rfl
    exact (Option.some.inj (e.symm.trans h)).symm
  · unfold Fexact_Whole_a_0 at hr
    split at hr
    · obtain rfl := (Option.some.inj he).symm
      exact (gexact_Whole_a_l0_ok wl fuel K _ _ _ _ _ _ _ _ _ _ fuel _ _).trans hr
    · cases hr
noncomputable def gexact_Whole_a (wl : Mo) (fuel po qbh : Nat) (qat : Ge) : Option AV :=
  ck (decide (0 ≤ IntKind.i64.wrap (8 * (↑po : Int)))) <| ck (decide (IntKind.i64.wrap (8 * (↑po : Int)) ≤ IntKind.i64.wrap (8 * (↑po : Int)))) <| ck ((1 * (IntKind.i64.wrap (8 * (↑po : Int))).toNat).ble 281474976710656) <| ck (((IntKind.i64.wrap (8 * (↑po : Int))).toNat + 1).ble 4611686018427387904) <| gexact_Whole_a_l0 wl fuel
    (fun (qlx ql0 qlz : Nat) (v1 : List AV) (v0 : List (List AV)) => let r0 : Option AV := wl [AV.ptr (xidx [Blk.fx 1 v1 v0].length (xtoks [AV.ptr [Blk.fx 1 v1 v0].length 0,AV.own 0 qlx 1 ql0 qlz] [])) 0,AV.ro 1 ql0 qlz fun (i j : Nat) => (v0.getD (qlx + i) v1).getD j AV.dead,AV.bool false,AV.ro 1 0 0 fun (x j : Nat) => [AV.int .u32 0].getD j AV.dead]; ck (okX [RS.one LK.b,RS.one (LK.l 1)] r0) <| some (AV.tup [AV.bool (toB ((toT (getV r0)).headD .dead)),AV.ro 1 (toN ((toT (getV r0)).tail.headD .dead)) (toR ((toT (getV r0)).tail.headD .dead)) (toG ((toT (getV r0)).tail.headD .dead))]))
    po
    qbh
    qat
    (0)
    ((IntKind.i64.wrap (8 * (↑po : Int))).toNat)
    ((IntKind.i64.wrap (8 * (↑po : Int))).toNat)
    ((↑(IntKind.i64.wrap (8 * (↑po : Int))).toNat : Int))
    ([AV.int .u8 0]) fuel (0) (List.replicate (IntKind.i64.wrap (8 * (↑po : Int))).toNat [AV.int .u8 0])
theorem gexact_Whole_a_run (wl : Mo) (fuel po qbh : Nat) (qat : Ge) : runX Pr (Gexact_Whole_a wl) [((6,78),Lexact_Whole_a wl fuel)] fuel 7 78 Xexact_Whole_a [AV.ro 1 po qbh qat] [] = gexact_Whole_a wl fuel po qbh qat := by kernel_rfl
noncomputable def mexact_Whole_a (wl : Mo) (fuel : Nat) (xs : List AV) : Option AV := match xs with
  | [AV.ro 1 po qbh qat] => gexact_Whole_a wl fuel po qbh qat
  | _ => none
theorem gexact_Whole_a_sm (wl : Mo) (fuel : Nat) (hΓ : GamOk Pr (Gexact_Whole_a wl)) (hP : NamesOk Pr) : XOk Pr 78 (smX Rexact_Whole_a Xexact_Whole_a (mexact_Whole_a wl fuel)) Xexact_Whole_a := by
  refine smX_ok (fuel := fuel) hΓ hP (LamOk.of 6 78 (Lexact_Whole_a wl fuel) 1 (by kernel_rfl) (fun i hi => ?_)) 7 78 Rexact_Whole_a Xexact_Whole_a _ (fun xs0 ys0 v ha hb h => ?_)
  · match i,hi with
    | 0,_ => exact gexact_Whole_a_L0 wl fuel
    | i + 1,hi => exact absurd hi (by omega)
  · skip
    have ha0 : xs0.length = 1 := ha
    clear ha
    obtain ⟨a0,xs1,rfl,ha1⟩ := len_cons ha0
    clear ha0
    obtain rfl := List.eq_nil_of_length_eq_zero ha1
    have hy0 : ys0.map List.length = [] := hb
    clear hb
    obtain rfl := map_nil' hy0
    have h : mexact_Whole_a wl fuel [a0] = some v := h
    generalize hx0 : [a0] = zs at h
    unfold mexact_Whole_a at h
    split at h
    · skip
      obtain ⟨rfl,hx1⟩ := List.cons.inj hx0
      simp only [List.map_cons,List.map_nil]
      exact (gexact_Whole_a_run wl fuel _ _ _).trans h
    · cases h
noncomputable def Gsum (v2 z3 qam : Mo) : Gam := [(143,smM [RS.one (LK.l (nat_lit 1))] v2),(191,smM [RS.one (LK.i .i64)] z3),(145,smM [RS.one (LK.l (nat_lit 1))] qam)]
noncomputable def gsum (v2 z3 qam : Mo) (fuel : Nat) (xn0 : Bool) (qod qoa : Nat) (qn8 : Ge) (yn2 : Bool) (qoc qn9 : Nat) (qob : Ge) : Option AV :=
  bif xn0 == yn2 then let r0 : Option AV := v2 [AV.ro 1 qod qoa qn8,AV.ro 1 qoc qn9 qob]; ck (okM [RS.one (LK.l 1)] r0) <| some (AV.tup [AV.bool xn0,AV.ro 1 (toN (getV r0)) (toR (getV r0)) (toG (getV r0))])
  else ck (okM [RS.one (LK.i .i64)] (z3 [AV.ro 1 qod qoa qn8,AV.ro 1 qoc qn9 qob])) <| bif decide (toI (getV (z3 [AV.ro 1 qod qoa qn8,AV.ro 1 qoc qn9 qob])) ≥ 0) then let r1 : Option AV := qam [AV.ro 1 qod qoa qn8,AV.ro 1 qoc qn9 qob]; ck (okM [RS.one (LK.l 1)] r1) <| some (AV.tup [AV.bool xn0,AV.ro 1 (toN (getV r1)) (toR (getV r1)) (toG (getV r1))])
  else let r2 : Option AV := qam [AV.ro 1 qoc qn9 qob,AV.ro 1 qod qoa qn8]; ck (okM [RS.one (LK.l 1)] r2) <| some (AV.tup [AV.bool yn2,AV.ro 1 (toN (getV r2)) (toR (getV r2)) (toG (getV r2))])
noncomputable def msum (v2 z3 qam : Mo) (fuel : Nat) (xs : List AV) : Option AV := match xs with
  | [AV.bool xn0,AV.ro 1 qod qoa qn8,AV.bool yn2,AV.ro 1 qoc qn9 qob] => gsum v2 z3 qam fuel xn0 qod qoa qn8 yn2 qoc qn9 qob
  | _ => none
abbrev Rsum : List RS := [RS.one LK.b,RS.one (LK.l (nat_lit 1))]
theorem gsum_sm (v2 z3 qam : Mo) (fuel : Nat) (hΓ : GamOk Pr (Gsum v2 z3 qam)) (hP : NamesOk Pr) : SmOk Pr 135 (smM Rsum (msum v2 z3 qam fuel)) := sm0 (fuel := fuel) (d := 7) hΓ hP fun xs v h => by
  unfold msum at h
  split at h
  · exact Eq.trans (by kernel_rfl) h
  · cases h
noncomputable def LInt_Add_iii (qiv qc : Mo) (qb qa : Mo) (fuel : Nat) : Lam AV := []
noncomputable def GInt_Add_iii (qiv qc : Mo) (qb qa : Mo) : Gam := [(135,smM [RS.one LK.b,RS.one (LK.l (nat_lit 1))] qiv),(133,smX RInt_give_i XInt_give_i qc),(133,smX RInt_give_ra XInt_give_ra qb),(133,smX RInt_give_rb XInt_give_rb qa)]
noncomputable def gInt_Add_iii (qiv qc : Mo) (qb qa : Mo) (fuel : Nat) (wh : Bool) (qr qz : Nat) (qy : Ge) (z4 : Bool) (w5 zl : Nat) (zm : Ge) (v9 : Bool) (z7 vf : Nat) (vg : Ge) : Option AV :=
  let r0 : Option AV := qiv [AV.bool z4,AV.ro 1 w5 zl zm,AV.bool v9,AV.ro 1 z7 vf vg]; ck (okM [RS.one LK.b,RS.one (LK.l 1)] r0) <| let r1 : Option AV := qc [AV.ptr (xidx 0 (xtoks [AV.ptr 0 0,AV.bool (toB ((toT (getV r0)).headD .dead)),AV.ro 1 (toN ((toT (getV r0)).tail.headD .dead)) (toR ((toT (getV r0)).tail.headD .dead)) (toG ((toT (getV r0)).tail.headD .dead))] [])) 0,AV.bool (toB ((toT (getV r0)).headD .dead)),AV.ro 1 (toN ((toT (getV r0)).tail.headD .dead)) (toR ((toT (getV r0)).tail.headD .dead)) (toG ((toT (getV r0)).tail.headD .dead)),AV.bool wh,AV.ro 1 qr qz qy]; ck (okX [RS.one LK.b,RS.one (LK.l 1)] r1) <| some (AV.tup [AV.bool (toB ((toT (getV r1)).headD .dead)),AV.ro 1 (toN ((toT (getV r1)).tail.headD .dead)) (toR ((toT (getV r1)).tail.headD .dead)) (toG ((toT (getV r1)).tail.headD .dead)),AV.bool z4,AV.ro 1 w5 zl zm,AV.bool v9,AV.ro 1 z7 vf vg])
theorem gInt_Add_iii_run (qiv qc : Mo) (qb qa : Mo) (fuel : Nat) (wh : Bool) (qr qz : Nat) (qy : Ge) (z4 : Bool) (w5 zl : Nat) (zm : Ge) (v9 : Bool) (z7 vf : Nat) (vg : Ge) : runX Pr (GInt_Add_iii qiv qc qb qa) [((6,77),LInt_Add_iii qiv qc qb qa fuel)] fuel 7 77 XInt_Add_iii [AV.ptr 0 0,AV.ptr 1 0,AV.ptr 2 0] [Blk.box [AV.bool wh,AV.ro 1 qr qz qy],Blk.box [AV.bool z4,AV.ro 1 w5 zl zm],Blk.box [AV.bool v9,AV.ro 1 z7 vf vg]] = gInt_Add_iii qiv qc qb qa fuel wh qr qz qy z4 w5 zl zm v9 z7 vf vg := by kernel_rfl
noncomputable def mInt_Add_iii (qiv qc : Mo) (qb qa : Mo) (fuel : Nat) (xs : List AV) : Option AV := match xs with
  | [AV.ptr 0 0,AV.ptr 1 0,AV.ptr 2 0,AV.bool wh,AV.ro 1 qr qz qy,AV.bool z4,AV.ro 1 w5 zl zm,AV.bool v9,AV.ro 1 z7 vf vg] => gInt_Add_iii qiv qc qb qa fuel wh qr qz qy z4 w5 zl zm v9 z7 vf vg
  | _ => none
theorem gInt_Add_iii_sm (qiv qc : Mo) (qb qa : Mo) (fuel : Nat) (hΓ : GamOk Pr (GInt_Add_iii qiv qc qb qa)) (hP : NamesOk Pr) : XOk Pr 77 (smX RInt_Add_iii XInt_Add_iii (mInt_Add_iii qiv qc qb qa fuel)) XInt_Add_iii := by
  refine smX_ok (fuel := fuel) hΓ hP (LamOk.of 6 77 (LInt_Add_iii qiv qc qb qa fuel) 0 (by kernel_rfl) (fun i hi => ?_)) 7 77 RInt_Add_iii XInt_Add_iii _ (fun xs0 ys0 v ha hb h => ?_)
  · match i,hi with
    | i + 0,hi => exact absurd hi (by omega)
  · skip
    have ha0 : xs0.length = 3 := ha
    clear ha
    obtain ⟨a0,xs1,rfl,ha1⟩ := len_cons ha0
    clear ha0
    obtain ⟨a1,xs2,rfl,ha2⟩ := len_cons ha1
    clear ha1
    obtain ⟨a2,xs3,rfl,ha3⟩ := len_cons ha2
    clear ha2
    obtain rfl := List.eq_nil_of_length_eq_zero ha3
    have hy0 : ys0.map List.length = [2,2,2] := hb
    clear hb
    obtain ⟨wh,ys1,rfl,hb0_0,hy1⟩ := map_cons' hy0
    clear hy0
    obtain ⟨c0_0,b0_1,rfl,hb0_1⟩ := len_cons hb0_0
    clear hb0_0
    obtain ⟨c0_1,z8,rfl,hb0_2⟩ := len_cons hb0_1
    clear hb0_1
    obtain rfl := List.eq_nil_of_length_eq_zero hb0_2
    obtain ⟨z4,ys2,rfl,hb1_0,hy2⟩ := map_cons' hy1
    clear hy1
    obtain ⟨c1_0,b1_1,rfl,hb1_1⟩ := len_cons hb1_0
    clear hb1_0
    obtain ⟨c1_1,qaq,rfl,hb1_2⟩ := len_cons hb1_1
    clear hb1_1
    obtain rfl := List.eq_nil_of_length_eq_zero hb1_2
    obtain ⟨v9,ys3,rfl,hb2_0,hy3⟩ := map_cons' hy2
    clear hy2
    obtain ⟨c2_0,b2_1,rfl,hb2_1⟩ := len_cons hb2_0
    clear hb2_0
    obtain ⟨c2_1,qdq,rfl,hb2_2⟩ := len_cons hb2_1
    clear hb2_1
    obtain rfl := List.eq_nil_of_length_eq_zero hb2_2
    obtain rfl := map_nil' hy3
    have h : mInt_Add_iii qiv qc qb qa fuel [a0,a1,a2,c0_0,c0_1,c1_0,c1_1,c2_0,c2_1] = some v := h
    generalize hx0 : [a0,a1,a2,c0_0,c0_1,c1_0,c1_1,c2_0,c2_1] = zs at h
    unfold mInt_Add_iii at h
    split at h
    · skip
      obtain ⟨rfl,hx1⟩ := List.cons.inj hx0
      obtain ⟨rfl,hx2⟩ := List.cons.inj hx1
      obtain ⟨rfl,hx3⟩ := List.cons.inj hx2
      obtain ⟨rfl,hx4⟩ := List.cons.inj hx3
      obtain ⟨rfl,hx5⟩ := List.cons.inj hx4
      obtain ⟨rfl,hx6⟩ := List.cons.inj hx5
      obtain ⟨rfl,hx7⟩ := List.cons.inj hx6
      obtain ⟨rfl,hx8⟩ := List.cons.inj hx7
      obtain ⟨rfl,hx9⟩ := List.cons.inj hx8
      simp only [List.map_cons,List.map_nil]
      exact (gInt_Add_iii_run qiv qc qb qa fuel _ _ _ _ _ _ _ _ _ _ _ _).trans h
    · cases h
noncomputable def Gstiff_one : Gam := []
noncomputable def gstiff_one (fuel : Nat) (un0 : Int) : Option AV :=
  some (AV.agg [AV.flt .f64 (some (FloatKind.f64.nearest un0)),AV.flt .f64 (some (FloatKind.f64.nearest un0))])
noncomputable def mstiff_one (fuel : Nat) (xs : List AV) : Option AV := match xs with
  | [AV.int .i64 un0] => gstiff_one fuel un0
  | _ => none
abbrev Rstiff_one : List RS := [RS.agg [LK.f .f64,LK.f .f64]]
theorem gstiff_one_sm (fuel : Nat) (hΓ : GamOk Pr Gstiff_one) (hP : NamesOk Pr) : SmOk Pr 47 (smM Rstiff_one (mstiff_one fuel)) := sm0 (fuel := fuel) (d := 7) hΓ hP fun xs v h => by
  unfold mstiff_one at h
  split at h
  · exact Eq.trans (by kernel_rfl) h
  · cases h
noncomputable def Ground_none (w4 : Mo) : Gam := [(204,smM [RS.one (LK.f .f64)] w4)]
noncomputable def ground_none (w4 : Mo) (fuel : Nat) (um0 : Int) : Option AV :=
  bif um0 == 1 then ck (okM [RS.one (LK.f .f64)] (w4 [AV.flt .f64 (some 0),AV.flt .f64 (some 13830554455654793216)])) <| some (AV.flt .f64 (toF (getV (w4 [AV.flt .f64 (some 0),AV.flt .f64 (some 13830554455654793216)]))))
  else some (AV.flt .f64 (some 0))
noncomputable def mround_none (w4 : Mo) (fuel : Nat) (xs : List AV) : Option AV := match xs with
  | [AV.int .i8 um0] => ground_none w4 fuel um0
  | _ => none
abbrev Rround_none : List RS := [RS.one (LK.f .f64)]
theorem ground_none_sm (w4 : Mo) (fuel : Nat) (hΓ : GamOk Pr (Ground_none w4)) (hP : NamesOk Pr) : SmOk Pr 161 (smM Rround_none (mround_none w4 fuel)) := sm0 (fuel := fuel) (d := 7) hΓ hP fun xs v h => by
  unfold mround_none at h
  split at h
  · exact Eq.trans (by kernel_rfl) h
  · cases h
noncomputable def Ground_Add (wb q2 : Mo) (wk ys : Mo) (qf qv : Mo) (wf q7 : Mo) : Gam := [(150,smM [RS.one (LK.i .i8)] wb),(151,smM [RS.one LK.b] q2),(160,smM [RS.one LK.b] wk),(161,smM [RS.one (LK.f .f64)] ys),(156,smM [RS.one LK.b] qf),(153,smM [RS.one (LK.f .f64)] qv),(162,smM [RS.one (LK.f .f64)] wf),(154,smM [RS.one (LK.i .i64)] q7)]
noncomputable def ground_Add (wb q2 : Mo) (wk ys : Mo) (qf qv : Mo) (wf q7 : Mo) (fuel : Nat) (ua0 ub1 : Option Nat) (um2 : Int) : Option AV :=
  ck (okM [RS.one (LK.i .i8)] (wb [AV.int .i8 um2])) <| ck (okM [RS.one LK.b] (q2 [AV.ro 1 2 2 fun (i j : Nat) => ([[AV.flt .f64 ua0],[AV.flt .f64 ub1]].getD i []).getD j AV.dead])) <| bif !toB (getV (q2 [AV.ro 1 2 2 fun (i j : Nat) => ([[AV.flt .f64 ua0],[AV.flt .f64 ub1]].getD i []).getD j AV.dead])) then some (AV.flt .f64 (farith BinOp.add .f64 ua0 ub1))
  else ck (bif ford .f64 (farith BinOp.add .f64 ua0 ub1) (some 0) == some Ordering.eq then okM [RS.one LK.b] (wk [AV.flt .f64 ua0]) else true) <| ck (bif ford .f64 (farith BinOp.add .f64 ua0 ub1) (some 0) == some Ordering.eq then okM [RS.one LK.b] (wk [AV.flt .f64 ub1]) else true) <| bif bif bif ford .f64 (farith BinOp.add .f64 ua0 ub1) (some 0) == some Ordering.eq then ford .f64 ua0 (some 0) != some Ordering.eq else false then true else bif ford .f64 (farith BinOp.add .f64 ua0 ub1) (some 0) == some Ordering.eq then !toB (getV (wk [AV.flt .f64 ua0])) == toB (getV (wk [AV.flt .f64 ub1])) else false then ck (okM [RS.one (LK.f .f64)] (ys [AV.int .i8 (toI (getV (wb [AV.int .i8 um2])))])) <| some (AV.flt .f64 (toF (getV (ys [AV.int .i8 (toI (getV (wb [AV.int .i8 um2])))]))))
  else bif ford .f64 (farith BinOp.add .f64 ua0 ub1) (some 0) == some Ordering.eq then some (AV.flt .f64 (farith BinOp.add .f64 ua0 ub1))
  else ck (okM [RS.one LK.b] (qf [AV.flt .f64 (farith BinOp.add .f64 ua0 ub1),AV.int .i64 0])) <| bif toB (getV (qf [AV.flt .f64 (farith BinOp.add .f64 ua0 ub1),AV.int .i64 0])) then ck (okM [RS.one (LK.f .f64)] (qv [AV.flt .f64 (farith BinOp.add .f64 ua0 ub1),AV.int .i64 0,AV.int .i8 (toI (getV (wb [AV.int .i8 um2])))])) <| some (AV.flt .f64 (toF (getV (qv [AV.flt .f64 (farith BinOp.add .f64 ua0 ub1),AV.int .i64 0,AV.int .i8 (toI (getV (wb [AV.int .i8 um2])))]))))
  else ck (okM [RS.one (LK.f .f64)] (wf [AV.flt .f64 ua0])) <| ck (okM [RS.one (LK.f .f64)] (wf [AV.flt .f64 ub1])) <| bif ford .f64 (toF (getV (wf [AV.flt .f64 ua0]))) (toF (getV (wf [AV.flt .f64 ub1]))) == some Ordering.lt then ck (okM [RS.one (LK.i .i64)] (q7 [AV.flt .f64 (farith BinOp.sub .f64 ua0 (farith BinOp.sub .f64 (farith BinOp.add .f64 ua0 ub1) ub1))])) <| ck (okM [RS.one (LK.f .f64)] (qv [AV.flt .f64 (farith BinOp.add .f64 ua0 ub1),AV.int .i64 (toI (getV (q7 [AV.flt .f64 (farith BinOp.sub .f64 ua0 (farith BinOp.sub .f64 (farith BinOp.add .f64 ua0 ub1) ub1))]))),AV.int .i8 (toI (getV (wb [AV.int .i8 um2])))])) <| some (AV.flt .f64 (toF (getV (qv [AV.flt .f64 (farith BinOp.add .f64 ua0 ub1),AV.int .i64 (toI (getV (q7 [AV.flt .f64 (farith BinOp.sub .f64 ua0 (farith BinOp.sub .f64 (farith BinOp.add .f64 ua0 ub1) ub1))]))),AV.int .i8 (toI (getV (wb [AV.int .i8 um2])))]))))
  else ck (okM [RS.one (LK.i .i64)] (q7 [AV.flt .f64 (farith BinOp.sub .f64 ub1 (farith BinOp.sub .f64 (farith BinOp.add .f64 ua0 ub1) ua0))])) <| ck (okM [RS.one (LK.f .f64)] (qv [AV.flt .f64 (farith BinOp.add .f64 ua0 ub1),AV.int .i64 (toI (getV (q7 [AV.flt .f64 (farith BinOp.sub .f64 ub1 (farith BinOp.sub .f64 (farith BinOp.add .f64 ua0 ub1) ua0))]))),AV.int .i8 (toI (getV (wb [AV.int .i8 um2])))])) <| some (AV.flt .f64 (toF (getV (qv [AV.flt .f64 (farith BinOp.add .f64 ua0 ub1),AV.int .i64 (toI (getV (q7 [AV.flt .f64 (farith BinOp.sub .f64 ub1 (farith BinOp.sub .f64 (farith BinOp.add .f64 ua0 ub1) ua0))]))),AV.int .i8 (toI (getV (wb [AV.int .i8 um2])))]))))
noncomputable def mround_Add (wb q2 : Mo) (wk ys : Mo) (qf qv : Mo) (wf q7 : Mo) (fuel : Nat) (xs : List AV) : Option AV := match xs with
  | [AV.flt .f64 ua0,AV.flt .f64 ub1,AV.int .i8 um2] => ground_Add wb q2 wk ys qf qv wf q7 fuel ua0 ub1 um2
  | _ => none
abbrev Rround_Add : List RS := [RS.one (LK.f .f64)]
theorem ground_Add_sm (wb q2 : Mo) (wk ys : Mo) (qf qv : Mo) (wf q7 : Mo) (fuel : Nat) (hΓ : GamOk Pr (Ground_Add wb q2 wk ys qf qv wf q7)) (hP : NamesOk Pr) : SmOk Pr 95 (smM Rround_Add (mround_Add wb q2 wk ys qf qv wf q7 fuel)) := sm0 (fuel := fuel) (d := 7) hΓ hP fun xs v h => by
  unfold mround_Add at h
  split at h
  · exact Eq.trans (by kernel_rfl) h
  · cases h
noncomputable def Gspan_Add (w3 yv : Mo) : Gam := [(91,smM [RS.one LK.b] w3),(95,smM [RS.one (LK.f .f64)] yv)]
noncomputable def gspan_Add (w3 yv : Mo) (fuel : Nat) (vc vt : Option Nat) (vb vp : Option Nat) : Option AV :=
  ck (okM [RS.one LK.b] (w3 [AV.ro 2 2 2 fun (i j : Nat) => ([[AV.flt .f64 vc,AV.flt .f64 vt],[AV.flt .f64 vb,AV.flt .f64 vp]].getD i []).getD j AV.dead])) <| bif !toB (getV (w3 [AV.ro 2 2 2 fun (i j : Nat) => ([[AV.flt .f64 vc,AV.flt .f64 vt],[AV.flt .f64 vb,AV.flt .f64 vp]].getD i []).getD j AV.dead])) then some (AV.tup [AV.agg [AV.flt .f64 (some 0),AV.flt .f64 (some 0)],AV.int .i64 2])
  else ck (okM [RS.one (LK.f .f64)] (yv [AV.flt .f64 vc,AV.flt .f64 vb,AV.int .i8 1])) <| ck (okM [RS.one (LK.f .f64)] (yv [AV.flt .f64 vt,AV.flt .f64 vp,AV.int .i8 2])) <| some (AV.tup [AV.agg [AV.flt .f64 (toF (getV (yv [AV.flt .f64 vc,AV.flt .f64 vb,AV.int .i8 1]))),AV.flt .f64 (toF (getV (yv [AV.flt .f64 vt,AV.flt .f64 vp,AV.int .i8 2])))],AV.int .i64 0])
noncomputable def mspan_Add (w3 yv : Mo) (fuel : Nat) (xs : List AV) : Option AV := match xs with
  | [AV.agg [AV.flt .f64 vc,AV.flt .f64 vt],AV.agg [AV.flt .f64 vb,AV.flt .f64 vp]] => gspan_Add w3 yv fuel vc vt vb vp
  | _ => none
abbrev Rspan_Add : List RS := [RS.agg [LK.f .f64,LK.f .f64],RS.one (LK.i .i64)]
theorem gspan_Add_sm (w3 yv : Mo) (fuel : Nat) (hΓ : GamOk Pr (Gspan_Add w3 yv)) (hP : NamesOk Pr) : SmOk Pr 48 (smM Rspan_Add (mspan_Add w3 yv fuel)) := sm0 (fuel := fuel) (d := 7) hΓ hP fun xs v h => by
  unfold mspan_Add at h
  split at h
  · exact Eq.trans (by kernel_rfl) h
  · cases h
noncomputable def Gkit_SameFloat : Gam := [(66,Go.Am.sBits)]
noncomputable def gkit_SameFloat (fuel : Nat) (ua0 ub1 : Option Nat) : Option AV :=
  ck (sBits.ok [AV.flt .f64 ua0]) <| ck (sBits.ok [AV.flt .f64 ub1]) <| some (AV.bool (bif (↑(ua0.getD 0) : Int) == (↑(ub1.getD 0) : Int) then true else bif ford .f64 ua0 ua0 != some Ordering.eq then ford .f64 ub1 ub1 != some Ordering.eq else false))
noncomputable def mkit_SameFloat (fuel : Nat) (xs : List AV) : Option AV := match xs with
  | [AV.flt .f64 ua0,AV.flt .f64 ub1] => gkit_SameFloat fuel ua0 ub1
  | _ => none
abbrev Rkit_SameFloat : List RS := [RS.one LK.b]
theorem gkit_SameFloat_sm (fuel : Nat) (hΓ : GamOk Pr Gkit_SameFloat) (hP : NamesOk Pr) : SmOk Pr 22 (smM Rkit_SameFloat (mkit_SameFloat fuel)) := sm0 (fuel := fuel) (d := 7) hΓ hP fun xs v h => by
  unfold mkit_SameFloat at h
  split at h
  · exact Eq.trans (by kernel_rfl) h
  · cases h
noncomputable def Skit_SameReals_0 (qp qt : Nat) (qm : Ge) (wj wn : Nat) (wi : Ge) (ui5 : Int) : St := { env := [(0,AV.ro 1 qp qt qm),(1,AV.ro 1 wj wn wi),(5,AV.int .i64 ui5)],h := [],kd := [] }
noncomputable def Xkit_SameReals_0_0 (qho : Bool) : St := { env := [(4,AV.bool qho)],h := [],kd := [] }
noncomputable def Xkit_SameReals_0_1 : St := { env := [],h := [],kd := [] }
noncomputable def gkit_SameReals_l0_step (wr : Mo) (fuel : Nat) (kn : Int → Option AV) (kx0 : Bool → Option AV) (kx1 : Option AV) (qp qt : Nat) (qm : Ge) (wj wn : Nat) (wi : Ge) (ui5 : Int) : Option AV :=
  bif decide (ui5 < (↑qp : Int)) then ck (decide (0 ≤ ui5)) <| ck (decide (ui5 < (↑qp : Int))) <| ck (fitK (LK.f .f64) (qm ui5.toNat 0)) <| ck (decide (0 ≤ ui5)) <| ck (decide (ui5 < (↑wj : Int))) <| ck (fitK (LK.f .f64) (wi ui5.toNat 0)) <| ck (okM [RS.one LK.b] (wr [AV.flt .f64 (toF (qm ui5.toNat 0)),AV.flt .f64 (toF (wi ui5.toNat 0))])) <| bif !toB (getV (wr [AV.flt .f64 (toF (qm ui5.toNat 0)),AV.flt .f64 (toF (wi ui5.toNat 0))])) then kx0 false
    else kn (IntKind.i64.wrap (ui5 + 1))
  else kx1
noncomputable def gkit_SameReals_l0 (wr : Mo) (fuel : Nat) (kx0 : Bool → Option AV) (kx1 : Option AV) (qp qt : Nat) (qm : Ge) (wj wn : Nat) (wi : Ge) : Nat → Int → Option AV
  | 0,_ => none
  | n' + 1,ui5 => gkit_SameReals_l0_step wr fuel (gkit_SameReals_l0 wr fuel kx0 kx1 qp qt qm wj wn wi n') kx0 kx1 qp qt qm wj wn wi ui5
noncomputable def Tkit_SameReals_0 : TS' := ⟨[(0,TA.ro 1),(1,TA.ro 1),(5,TA.i .i64)],[],[]⟩
noncomputable def Fkit_SameReals_0 (wr : Mo) (fuel : Nat) (ps : List Pay) (K : Ex → St → Option AV) : Option AV := match ps with
  | .n qp :: .n qt :: .g qm :: .n wj :: .n wn :: .g wi :: .i ui5 :: [] => gkit_SameReals_l0 wr fuel (fun qho => K (Ex.ret) (Xkit_SameReals_0_0 qho)) (K (Ex.exit 0) Xkit_SameReals_0_1) qp qt qm wj wn wi fuel ui5
  | _ => none
noncomputable def Lkit_SameReals (wr : Mo) (fuel : Nat) : Lam AV := [(134215728,lam Tkit_SameReals_0 (Fkit_SameReals_0 wr fuel))]
noncomputable def Gkit_SameReals (wr : Mo) : Gam := [(22,smM [RS.one LK.b] wr)]
theorem gkit_SameReals_l0_eq (wr : Mo) (fuel : Nat) (kn : St → Option AV) (K : Ex → St → Option AV) (qp qt : Nat) (qm : Ge) (wj wn : Nat) (wi : Ge) (qi1 ui5 : Int) :
    bX Pr (Gkit_SameReals wr) (Lkit_SameReals wr fuel) 6 11 0 fuel (Skit_SameReals_0 qp qt qm wj wn wi ui5) (fun e s => match e with | .normal => kn (hX Pr 11 0 (Skit_SameReals_0 qp qt qm wj wn wi qi1) s) | e => K e s) =
    gkit_SameReals_l0_step wr fuel (fun ui5 => kn (Skit_SameReals_0 qp qt qm wj wn wi ui5)) (fun xu4 => K (Ex.ret) (Xkit_SameReals_0_0 xu4)) (K (Ex.exit 0) Xkit_SameReals_0_1) qp qt qm wj wn wi ui5 := by kernel_rfl
theorem gkit_SameReals_l0_ok (wr : Mo) (fuel : Nat) (K : Ex → St → Option AV) (qp qt : Nat) (qm : Ge) (wj wn : Nat) (wi : Ge) (qi1 : Int) : ∀ (n' : Nat) (ui5 : Int),
    loopK (bX Pr (Gkit_SameReals wr) (Lkit_SameReals wr fuel) 6 11 0 fuel) (hX Pr 11 0 (Skit_SameReals_0 qp qt qm wj wn wi qi1)) n' (Skit_SameReals_0 qp qt qm wj wn wi ui5) K = gkit_SameReals_l0 wr fuel (fun xu4 => K (Ex.ret) (Xkit_SameReals_0_0 xu4)) (K (Ex.exit 0) Xkit_SameReals_0_1) qp qt qm wj wn wi n' ui5
  | 0,_ => rfl
  | n' + 1,ui5 => (gkit_SameReals_l0_eq wr fuel (fun s => loopK (bX Pr (Gkit_SameReals wr) (Lkit_SameReals wr fuel) 6 11 0 fuel) (hX Pr 11 0 (Skit_SameReals_0 qp qt qm wj wn wi qi1)) n' s K) K qp qt qm wj wn wi qi1 ui5).trans
    (congrArg (fun kn => gkit_SameReals_l0_step wr fuel kn _ _ qp qt qm wj wn wi ui5) (funext fun ui5 => gkit_SameReals_l0_ok wr fuel K qp qt qm wj wn wi qi1 n' ui5))
theorem gkit_SameReals_L0 (wr : Mo) (fuel : Nat) : LX Pr (Gkit_SameReals wr) (Lkit_SameReals wr fuel) 6 11 0 fuel := by
  refine .of Tkit_SameReals_0 (Fkit_SameReals_0 wr fuel) (fun L h => ?_) (fun ps st K r he hr => ?_)
  · have e : (Lkit_SameReals wr fuel).get (writes (lp Pr 11 0).1) = some (lam Tkit_SameReals_0 (Fkit_SameReals_0 wr fuel)) := by kernel_rfl
    exact (Option.some.inj (e.symm.trans h)).symm
  · unfold Fkit_SameReals_0 at hr
    split at hr
    · obtain rfl := (Option.some.inj he).symm
      exact (gkit_SameReals_l0_ok wr fuel K _ _ _ _ _ _ _ fuel _).trans hr
    · cases hr
noncomputable def gkit_SameReals (wr : Mo) (fuel zn vq : Nat) (vh : Ge) (ym pp : Nat) (pi : Ge) : Option AV :=
  bif (↑zn : Int) != (↑ym : Int) then some (AV.bool false)
  else gkit_SameReals_l0 wr fuel
    (fun (xu4 : Bool) => some (AV.bool xu4))
    (some (AV.bool true))
    zn
    vq
    vh
    ym
    pp
    pi fuel (0)
noncomputable def mkit_SameReals (wr : Mo) (fuel : Nat) (xs : List AV) : Option AV := match xs with
  | [AV.ro 1 zn vq vh,AV.ro 1 ym pp pi] => gkit_SameReals wr fuel zn vq vh ym pp pi
  | _ => none
abbrev Rkit_SameReals : List RS := [RS.one LK.b]
theorem gkit_SameReals_sm (wr : Mo) (fuel : Nat) (hΓ : GamOk Pr (Gkit_SameReals wr)) (hP : NamesOk Pr) : SmOk Pr 11 (smM Rkit_SameReals (mkit_SameReals wr fuel)) := smL (L := (Lkit_SameReals wr fuel)) (n := 1) hΓ hP (by kernel_rfl) (fun i hi => match i,hi with
  | 0,_ => gkit_SameReals_L0 wr fuel
  | i + 1,hi => absurd hi (by omega)) fun xs v h => by
  unfold mkit_SameReals at h
  split at h
  · exact Eq.trans (by kernel_rfl) h
  · cases h
end Go.Proofs.Tryz
end
section
namespace Go.Proofs.Tryz
open Go Go.Am
set_option linter.unusedVariables false
set_option maxRecDepth 1000000
noncomputable def Skit_SameLimbs_0 (qp qt : Nat) (qm : Ge) (wj wn : Nat) (wi : Ge) (ui5 : Int) : St := { env := [(0,AV.ro 1 qp qt qm),(1,AV.ro 1 wj wn wi),(5,AV.int .i64 ui5)],h := [],kd := [] }
noncomputable def Xkit_SameLimbs_0_0 (qho : Bool) : St := { env := [(4,AV.bool qho)],h := [],kd := [] }
noncomputable def Xkit_SameLimbs_0_1 : St := { env := [],h := [],kd := [] }
noncomputable def gkit_SameLimbs_l0_step (fuel : Nat) (kn : Int → Option AV) (kx0 : Bool → Option AV) (kx1 : Option AV) (qp qt : Nat) (qm : Ge) (wj wn : Nat) (wi : Ge) (ui5 : Int) : Option AV :=
  bif decide (ui5 < (↑qp : Int)) then ck (decide (0 ≤ ui5)) <| ck (decide (ui5 < (↑qp : Int))) <| ck (fitK (LK.i .u64) (qm ui5.toNat 0)) <| ck (decide (0 ≤ ui5)) <| ck (decide (ui5 < (↑wj : Int))) <| ck (fitK (LK.i .u64) (wi ui5.toNat 0)) <| bif toI (qm ui5.toNat 0) != toI (wi ui5.toNat 0) then kx0 false
    else kn (IntKind.i64.wrap (ui5 + 1))
  else kx1
noncomputable def gkit_SameLimbs_l0 (fuel : Nat) (kx0 : Bool → Option AV) (kx1 : Option AV) (qp qt : Nat) (qm : Ge) (wj wn : Nat) (wi : Ge) : Nat → Int → Option AV
  | 0,_ => none
  | n' + 1,ui5 => gkit_SameLimbs_l0_step fuel (gkit_SameLimbs_l0 fuel kx0 kx1 qp qt qm wj wn wi n') kx0 kx1 qp qt qm wj wn wi ui5
noncomputable def Tkit_SameLimbs_0 : TS' := ⟨[(0,TA.ro 1),(1,TA.ro 1),(5,TA.i .i64)],[],[]⟩
noncomputable def Fkit_SameLimbs_0 (fuel : Nat) (ps : List Pay) (K : Ex → St → Option AV) : Option AV := match ps with
  | .n qp :: .n qt :: .g qm :: .n wj :: .n wn :: .g wi :: .i ui5 :: [] => gkit_SameLimbs_l0 fuel (fun qho => K (Ex.ret) (Xkit_SameLimbs_0_0 qho)) (K (Ex.exit 0) Xkit_SameLimbs_0_1) qp qt qm wj wn wi fuel ui5
  | _ => none
noncomputable def Lkit_SameLimbs (fuel : Nat) : Lam AV := [(67106864,lam Tkit_SameLimbs_0 (Fkit_SameLimbs_0 fuel))]
noncomputable def Gkit_SameLimbs : Gam := []
theorem gkit_SameLimbs_l0_eq (fuel : Nat) (kn : St → Option AV) (K : Ex → St → Option AV) (qp qt : Nat) (qm : Ge) (wj wn : Nat) (wi : Ge) (qi1 ui5 : Int) :
    bX Pr Gkit_SameLimbs (Lkit_SameLimbs fuel) 6 96 0 fuel (Skit_SameLimbs_0 qp qt qm wj wn wi ui5) (fun e s => match e with | .normal => kn (hX Pr 96 0 (Skit_SameLimbs_0 qp qt qm wj wn wi qi1) s) | e => K e s) =
    gkit_SameLimbs_l0_step fuel (fun ui5 => kn (Skit_SameLimbs_0 qp qt qm wj wn wi ui5)) (fun xu4 => K (Ex.ret) (Xkit_SameLimbs_0_0 xu4)) (K (Ex.exit 0) Xkit_SameLimbs_0_1) qp qt qm wj wn wi ui5 := by kernel_rfl
theorem gkit_SameLimbs_l0_ok (fuel : Nat) (K : Ex → St → Option AV) (qp qt : Nat) (qm : Ge) (wj wn : Nat) (wi : Ge) (qi1 : Int) : ∀ (n' : Nat) (ui5 : Int),
    loopK (bX Pr Gkit_SameLimbs (Lkit_SameLimbs fuel) 6 96 0 fuel) (hX Pr 96 0 (Skit_SameLimbs_0 qp qt qm wj wn wi qi1)) n' (Skit_SameLimbs_0 qp qt qm wj wn wi ui5) K = gkit_SameLimbs_l0 fuel (fun xu4 => K (Ex.ret) (Xkit_SameLimbs_0_0 xu4)) (K (Ex.exit 0) Xkit_SameLimbs_0_1) qp qt qm wj wn wi n' ui5
  | 0,_ => rfl
  | n' + 1,ui5 => (gkit_SameLimbs_l0_eq fuel (fun s => loopK (bX Pr Gkit_SameLimbs (Lkit_SameLimbs fuel) 6 96 0 fuel) (hX Pr 96 0 (Skit_SameLimbs_0 qp qt qm wj wn wi qi1)) n' s K) K qp qt qm wj wn wi qi1 ui5).trans
    (congrArg (fun kn => gkit_SameLimbs_l0_step fuel kn _ _ qp qt qm wj wn wi ui5) (funext fun ui5 => gkit_SameLimbs_l0_ok fuel K qp qt qm wj wn wi qi1 n' ui5))
theorem gkit_SameLimbs_L0 (fuel : Nat) : LX Pr Gkit_SameLimbs (Lkit_SameLimbs fuel) 6 96 0 fuel := by
  refine .of Tkit_SameLimbs_0 (Fkit_SameLimbs_0 fuel) (fun L h => ?_) (fun ps st K r he hr => ?_)
  · have e : (Lkit_SameLimbs fuel).get (writes (lp Pr 96 0).1) = some (lam Tkit_SameLimbs_0 (Fkit_SameLimbs_0 fuel)) := by kernel_rfl
    exact (Option.some.inj (e.symm.trans h)).symm
  · unfold Fkit_SameLimbs_0 at hr
    split at hr
    · obtain rfl := (Option.some.inj he).symm
      exact (gkit_SameLimbs_l0_ok fuel K _ _ _ _ _ _ _ fuel _).trans hr
    · cases hr
noncomputable def gkit_SameLimbs (fuel zn vq : Nat) (vh : Ge) (ym pp : Nat) (pi : Ge) : Option AV :=
  bif (↑zn : Int) != (↑ym : Int) then some (AV.bool false)
  else gkit_SameLimbs_l0 fuel
    (fun (xu4 : Bool) => some (AV.bool xu4))
    (some (AV.bool true))
    zn
    vq
    vh
    ym
    pp
    pi fuel (0)
noncomputable def mkit_SameLimbs (fuel : Nat) (xs : List AV) : Option AV := match xs with
  | [AV.ro 1 zn vq vh,AV.ro 1 ym pp pi] => gkit_SameLimbs fuel zn vq vh ym pp pi
  | _ => none
abbrev Rkit_SameLimbs : List RS := [RS.one LK.b]
theorem gkit_SameLimbs_sm (fuel : Nat) (hΓ : GamOk Pr Gkit_SameLimbs) (hP : NamesOk Pr) : SmOk Pr 96 (smM Rkit_SameLimbs (mkit_SameLimbs fuel)) := smL (L := (Lkit_SameLimbs fuel)) (n := 1) hΓ hP (by kernel_rfl) (fun i hi => match i,hi with
  | 0,_ => gkit_SameLimbs_L0 fuel
  | i + 1,hi => absurd hi (by omega)) fun xs v h => by
  unfold mkit_SameLimbs at h
  split at h
  · exact Eq.trans (by kernel_rfl) h
  · cases h
noncomputable def Gkit_SameDyad (vo : Mo) : Gam := [(96,smM [RS.one LK.b] vo)]
noncomputable def gkit_SameDyad (vo : Mo) (fuel : Nat) (vc : Bool) (qi4 qi2 : Nat) (qi5 : Ge) (qep : Int) (vb : Bool) (qja qjc : Nat) (qjl : Ge) (qeu : Int) : Option AV :=
  ck (bif vc == vb then true else true) <| ck (bif vc == vb then true else true) <| ck (bif vc == vb then okM [RS.one LK.b] (vo [AV.ro 1 qi4 qi2 qi5,AV.ro 1 qja qjc qjl]) else true) <| ck (bif bif vc == vb then toB (getV (vo [AV.ro 1 qi4 qi2 qi5,AV.ro 1 qja qjc qjl])) else false then true else true) <| ck (bif bif vc == vb then toB (getV (vo [AV.ro 1 qi4 qi2 qi5,AV.ro 1 qja qjc qjl])) else false then true else true) <| some (AV.bool (bif bif vc == vb then toB (getV (vo [AV.ro 1 qi4 qi2 qi5,AV.ro 1 qja qjc qjl])) else false then qep == qeu else false))
noncomputable def mkit_SameDyad (vo : Mo) (fuel : Nat) (xs : List AV) : Option AV := match xs with
  | [AV.agg [AV.bool vc,AV.ro 1 qi4 qi2 qi5,AV.int .i64 qep],AV.agg [AV.bool vb,AV.ro 1 qja qjc qjl,AV.int .i64 qeu]] => gkit_SameDyad vo fuel vc qi4 qi2 qi5 qep vb qja qjc qjl qeu
  | _ => none
abbrev Rkit_SameDyad : List RS := [RS.one LK.b]
theorem gkit_SameDyad_sm (vo : Mo) (fuel : Nat) (hΓ : GamOk Pr (Gkit_SameDyad vo)) (hP : NamesOk Pr) : SmOk Pr 49 (smM Rkit_SameDyad (mkit_SameDyad vo fuel)) := sm0 (fuel := fuel) (d := 7) hΓ hP fun xs v h => by
  unfold mkit_SameDyad at h
  split at h
  · exact Eq.trans (by kernel_rfl) h
  · cases h
end Go.Proofs.Tryz
end
section
namespace Go.Proofs.Tryz
open Go Go.Am
set_option maxRecDepth 1000000
def NN : Nat := 1125899906842624
def namesB (P : Program) : Bool := P.funcs.toList.all fun fn => !(fn.body.isSome) || !(fn.name == "runtime.NumGoroutine")
theorem names_of {P : Program} (h : namesB P = true) : NamesOk P := by
  intro f fn hf hb
  have := List.all_eq_true.1 h fn (by
    have : P.funcs.toList[f]? = some fn := by simpa using hf
    exact List.mem_of_getElem? this)
  simp only [hb, Bool.not_true, Bool.false_or, Bool.not_eq_true'] at this
  exact this
theorem namesA : NamesOk Pr := names_of (by decide +kernel)
theorem stub_ok (f : Nat) (rs : List RS) : SmOk Pr f (smM rs fun _ => none) :=
  ⟨fun args vs w S _ _ _ _ h => (by cases h), fun _ args h => (by cases h)⟩
theorem ext66 : SmOk Pr 66 sBits := bits_ok (fn := f66) (by kernel_rfl) (by kernel_rfl) (by kernel_rfl) (by kernel_rfl) (by kernel_rfl)
theorem ext155 : SmOk Pr 155 sFma := fma_ok (fn := f155) (by kernel_rfl) (by kernel_rfl) (by kernel_rfl) (by kernel_rfl) (by kernel_rfl)
theorem ext185 : SmOk Pr 185 sFrom := from_ok (fn := f185) (by kernel_rfl) (by kernel_rfl) (by kernel_rfl) (by kernel_rfl) (by kernel_rfl)
theorem ext249 : SmOk Pr 249 sSqrt := sqrt_ok (fn := f249) (by kernel_rfl) (by kernel_rfl) (by kernel_rfl) (by kernel_rfl) (by kernel_rfl)
def kround_cmp : Mo := fun _ => none
def kround_times : Mo := fun _ => none
def kround_of : Mo := fun _ => none
noncomputable def kjoints_named : Mo := mjoints_named  NN
theorem okjoints_named : SmOk Pr 179 (smM Rjoints_named kjoints_named) := gjoints_named_sm  NN (show GamOk Pr (Gjoints_named ) from GamOk.nil) namesA
noncomputable def kjoints_near : Mo := mjoints_near  NN
theorem okjoints_near : SmOk Pr 180 (smM Rjoints_near kjoints_near) := gjoints_near_sm  NN (show GamOk Pr (Gjoints_near ) from GamOk.nil) namesA
noncomputable def kjoints_Check : Mo := mjoints_Check kjoints_named kjoints_near NN
theorem okjoints_Check : SmOk Pr 116 (smM Rjoints_Check kjoints_Check) := gjoints_Check_sm kjoints_named kjoints_near NN (show GamOk Pr (Gjoints_Check kjoints_named kjoints_near) from (.cons (okjoints_named) rfl (.cons (okjoints_near) rfl GamOk.nil))) namesA
noncomputable def kbars_named : Mo := mbars_named  NN
theorem okbars_named : SmOk Pr 181 (smM Rbars_named kbars_named) := gbars_named_sm  NN (show GamOk Pr (Gbars_named ) from GamOk.nil) namesA
noncomputable def kbars_number : Mo := mbars_number  NN
theorem okbars_number : SmOk Pr 182 (smM Rbars_number kbars_number) := gbars_number_sm  NN (show GamOk Pr (Gbars_number ) from GamOk.nil) namesA
noncomputable def kbars_may : Mo := mbars_may kbars_named kbars_number NN
theorem okbars_may : SmOk Pr 117 (smM Rbars_may kbars_may) := gbars_may_sm kbars_named kbars_number NN (show GamOk Pr (Gbars_may kbars_named kbars_number) from (.cons (okbars_named) rfl (.cons (okbars_number) rfl (.cons ext66 rfl GamOk.nil)))) namesA
noncomputable def kbars_Check : Mo := mbars_Check kjoints_Check kbars_may NN
theorem okbars_Check : SmOk Pr 67 (smM Rbars_Check kbars_Check) := gbars_Check_sm kjoints_Check kbars_may NN (show GamOk Pr (Gbars_Check kjoints_Check kbars_may) from (.cons (okjoints_Check) rfl (.cons (okbars_may) rfl GamOk.nil))) namesA
noncomputable def kjoints_Apart : Mo := mjoints_Apart kjoints_near NN
theorem okjoints_Apart : SmOk Pr 118 (smM Rjoints_Apart kjoints_Apart) := gjoints_Apart_sm kjoints_near NN (show GamOk Pr (Gjoints_Apart kjoints_near) from (.cons (okjoints_near) rfl GamOk.nil)) namesA
noncomputable def kround_way : Mo := mround_way  NN
theorem okround_way : SmOk Pr 150 (smM Rround_way kround_way) := ground_way_sm  NN (show GamOk Pr (Ground_way ) from GamOk.nil) namesA
noncomputable def kmath_Sqrt : Mo := mmath_Sqrt  NN
theorem okmath_Sqrt : SmOk Pr 221 (smM Rmath_Sqrt kmath_Sqrt) := gmath_Sqrt_sm  NN (show GamOk Pr (Gmath_Sqrt ) from (.cons ext249 rfl GamOk.nil)) namesA
noncomputable def kmath_IsNaN : Mo := mmath_IsNaN  NN
theorem okmath_IsNaN : SmOk Pr 203 (smM Rmath_IsNaN kmath_IsNaN) := gmath_IsNaN_sm  NN (show GamOk Pr (Gmath_IsNaN ) from GamOk.nil) namesA
noncomputable def kmath_Abs : Mo := mmath_Abs  NN
theorem okmath_Abs : SmOk Pr 162 (smM Rmath_Abs kmath_Abs) := gmath_Abs_sm  NN (show GamOk Pr (Gmath_Abs ) from (.cons ext66 rfl (.cons ext185 rfl GamOk.nil))) namesA
noncomputable def kmath_IsInf : Mo := mmath_IsInf kmath_Abs NN
theorem okmath_IsInf : SmOk Pr 156 (smM Rmath_IsInf kmath_IsInf) := gmath_IsInf_sm kmath_Abs NN (show GamOk Pr (Gmath_IsInf kmath_Abs) from (.cons (okmath_Abs) rfl GamOk.nil)) namesA
noncomputable def kround_finite : Mo := mround_finite kmath_IsNaN kmath_IsInf NN
theorem okround_finite : SmOk Pr 151 (smM Rround_finite kround_finite) := ground_finite_sm kmath_IsNaN kmath_IsInf NN (show GamOk Pr (Ground_finite kmath_IsNaN kmath_IsInf) from (.cons (okmath_IsNaN) rfl (.cons (okmath_IsInf) rfl GamOk.nil))) namesA
noncomputable def kround_plain : Mo := mround_plain  NN
theorem okround_plain : SmOk Pr 152 (smM Rround_plain kround_plain) := ground_plain_sm  NN (show GamOk Pr (Ground_plain ) from (.cons ext66 rfl GamOk.nil)) namesA
noncomputable def kround_sign : Mo := mround_sign  NN
theorem okround_sign : SmOk Pr 154 (smM Rround_sign kround_sign) := ground_sign_sm  NN (show GamOk Pr (Ground_sign ) from GamOk.nil) namesA
noncomputable def kmath_Signbit : Mo := mmath_Signbit  NN
theorem okmath_Signbit : SmOk Pr 160 (smM Rmath_Signbit kmath_Signbit) := gmath_Signbit_sm  NN (show GamOk Pr (Gmath_Signbit ) from (.cons ext66 rfl GamOk.nil)) namesA
noncomputable def kmath_Copysign : Mo := mmath_Copysign  NN
theorem okmath_Copysign : SmOk Pr 204 (smM Rmath_Copysign kmath_Copysign) := gmath_Copysign_sm  NN (show GamOk Pr (Gmath_Copysign ) from (.cons ext66 rfl (.cons ext185 rfl GamOk.nil))) namesA
noncomputable def kround_step : Mo := mround_step  NN
theorem okround_step : SmOk Pr 205 (smM Rround_step kround_step) := ground_step_sm  NN (show GamOk Pr (Ground_step ) from (.cons ext66 rfl (.cons ext185 rfl GamOk.nil))) namesA
noncomputable def kround_settle : Mo := mround_settle kmath_Signbit kmath_IsInf kmath_Copysign kround_step NN
theorem okround_settle : SmOk Pr 153 (smM Rround_settle kround_settle) := ground_settle_sm kmath_Signbit kmath_IsInf kmath_Copysign kround_step NN (show GamOk Pr (Ground_settle kmath_Signbit kmath_IsInf kmath_Copysign kround_step) from (.cons (okmath_Signbit) rfl (.cons (okmath_IsInf) rfl (.cons (okmath_Copysign) rfl (.cons (okround_step) rfl GamOk.nil))))) namesA
noncomputable def kround_Sqrt : Mo := mround_Sqrt kround_way kmath_Sqrt kround_finite kround_plain kround_sign kround_settle kround_of kround_times kround_cmp NN
theorem okround_Sqrt : SmOk Pr 183 (smM Rround_Sqrt kround_Sqrt) := ground_Sqrt_sm kround_way kmath_Sqrt kround_finite kround_plain kround_sign kround_settle kround_of kround_times kround_cmp NN (show GamOk Pr (Ground_Sqrt kround_way kmath_Sqrt kround_finite kround_plain kround_sign kround_settle kround_of kround_times kround_cmp) from (.cons (okround_way) rfl (.cons (okmath_Sqrt) rfl (.cons (okround_finite) rfl (.cons (okround_plain) rfl (.cons (okround_sign) rfl (.cons (okround_settle) rfl (.cons (stub_ok _ _) rfl (.cons (stub_ok _ _) rfl (.cons (stub_ok _ _) rfl (.cons ext155 rfl GamOk.nil))))))))))) namesA
noncomputable def kjoints_Length : Mo := mjoints_Length kjoints_Apart kround_Sqrt NN
theorem okjoints_Length : SmOk Pr 119 (smM Rjoints_Length kjoints_Length) := gjoints_Length_sm kjoints_Apart kround_Sqrt NN (show GamOk Pr (Gjoints_Length kjoints_Apart kround_Sqrt) from (.cons (okjoints_Apart) rfl (.cons (okround_Sqrt) rfl GamOk.nil))) namesA
noncomputable def kbars_one : Mo := mbars_one  NN
theorem okbars_one : SmOk Pr 122 (smM Rbars_one kbars_one) := gbars_one_sm  NN (show GamOk Pr (Gbars_one ) from GamOk.nil) namesA
noncomputable def kmath_Inf : Mo := mmath_Inf  NN
theorem okmath_Inf : SmOk Pr 126 (smM Rmath_Inf kmath_Inf) := gmath_Inf_sm  NN (show GamOk Pr (Gmath_Inf ) from (.cons ext185 rfl GamOk.nil)) namesA
noncomputable def kspan_Right : Mo := mspan_Right kmath_Inf NN
theorem okspan_Right : SmOk Pr 70 (smM Rspan_Right kspan_Right) := gspan_Right_sm kmath_Inf NN (show GamOk Pr (Gspan_Right kmath_Inf) from (.cons (okmath_Inf) rfl GamOk.nil)) namesA
noncomputable def kspan_right : Mo := mspan_right kspan_Right NN
theorem okspan_right : SmOk Pr 91 (smM Rspan_right kspan_right) := gspan_right_sm kspan_Right NN (show GamOk Pr (Gspan_right kspan_Right) from (.cons (okspan_Right) rfl GamOk.nil)) namesA
noncomputable def kbits_Place : Mo := mbits_Place kmath_Abs NN
theorem okbits_Place : SmOk Pr 252 (smM Rbits_Place kbits_Place) := gbits_Place_sm kmath_Abs NN (show GamOk Pr (Gbits_Place kmath_Abs) from (.cons (okmath_Abs) rfl (.cons ext66 rfl GamOk.nil))) namesA
noncomputable def kbits_rank : Mo := mbits_rank kbits_Place kmath_Signbit NN
theorem okbits_rank : SmOk Pr 233 (smM Rbits_rank kbits_rank) := gbits_rank_sm kbits_Place kmath_Signbit NN (show GamOk Pr (Gbits_rank kbits_Place kmath_Signbit) from (.cons (okbits_Place) rfl (.cons (okmath_Signbit) rfl GamOk.nil))) namesA
noncomputable def kcmp_isNaN_int64 : Mo := mcmp_isNaN_int64  NN
theorem okcmp_isNaN_int64 : SmOk Pr 253 (smM Rcmp_isNaN_int64 kcmp_isNaN_int64) := gcmp_isNaN_int64_sm  NN (show GamOk Pr (Gcmp_isNaN_int64 ) from GamOk.nil) namesA
noncomputable def kcmp_Compare_int64 : Mo := mcmp_Compare_int64 kcmp_isNaN_int64 NN
theorem okcmp_Compare_int64 : SmOk Pr 235 (smM Rcmp_Compare_int64 kcmp_Compare_int64) := gcmp_Compare_int64_sm kcmp_isNaN_int64 NN (show GamOk Pr (Gcmp_Compare_int64 kcmp_isNaN_int64) from (.cons (okcmp_isNaN_int64) rfl GamOk.nil)) namesA
noncomputable def kcmp_isNaN_int : Mo := mcmp_isNaN_int  NN
theorem okcmp_isNaN_int : SmOk Pr 254 (smM Rcmp_isNaN_int kcmp_isNaN_int) := gcmp_isNaN_int_sm  NN (show GamOk Pr (Gcmp_isNaN_int ) from GamOk.nil) namesA
noncomputable def kcmp_Compare_int : Mo := mcmp_Compare_int kcmp_isNaN_int NN
theorem okcmp_Compare_int : SmOk Pr 236 (smM Rcmp_Compare_int kcmp_Compare_int) := gcmp_Compare_int_sm kcmp_isNaN_int NN (show GamOk Pr (Gcmp_Compare_int kcmp_isNaN_int) from (.cons (okcmp_isNaN_int) rfl GamOk.nil)) namesA
noncomputable def kcmp_Or_int : Mo := mcmp_Or_int  NN
theorem okcmp_Or_int : SmOk Pr 234 (smM Rcmp_Or_int kcmp_Or_int) := gcmp_Or_int_sm  NN (show GamOk Pr (Gcmp_Or_int ) from GamOk.nil) namesA
noncomputable def kbits_Order : Mo := mbits_Order kbits_rank kcmp_Compare_int64 kcmp_Compare_int kcmp_Or_int NN
theorem okbits_Order : SmOk Pr 202 (smM Rbits_Order kbits_Order) := gbits_Order_sm kbits_rank kcmp_Compare_int64 kcmp_Compare_int kcmp_Or_int NN (show GamOk Pr (Gbits_Order kbits_rank kcmp_Compare_int64 kcmp_Compare_int kcmp_Or_int) from (.cons (okbits_rank) rfl (.cons (okcmp_Compare_int64) rfl (.cons (okcmp_Compare_int) rfl (.cons (okcmp_Or_int) rfl GamOk.nil))))) namesA
noncomputable def kspan_lesser : Mo := mspan_lesser kbits_Order NN
theorem okspan_lesser : SmOk Pr 148 (smM Rspan_lesser kspan_lesser) := gspan_lesser_sm kbits_Order NN (show GamOk Pr (Gspan_lesser kbits_Order) from (.cons (okbits_Order) rfl GamOk.nil)) namesA
noncomputable def kspan_greater : Mo := mspan_greater kbits_Order NN
theorem okspan_greater : SmOk Pr 149 (smM Rspan_greater kspan_greater) := gspan_greater_sm kbits_Order NN (show GamOk Pr (Gspan_greater kbits_Order) from (.cons (okbits_Order) rfl GamOk.nil)) namesA
noncomputable def kround_Mul : Mo := mround_Mul kround_way kround_finite kround_plain kround_sign kround_settle kmath_IsInf kround_of kround_times kround_cmp NN
theorem okround_Mul : SmOk Pr 94 (smM Rround_Mul kround_Mul) := ground_Mul_sm kround_way kround_finite kround_plain kround_sign kround_settle kmath_IsInf kround_of kround_times kround_cmp NN (show GamOk Pr (Ground_Mul kround_way kround_finite kround_plain kround_sign kround_settle kmath_IsInf kround_of kround_times kround_cmp) from (.cons (okround_way) rfl (.cons (okround_finite) rfl (.cons (okround_plain) rfl (.cons (okround_sign) rfl (.cons (okround_settle) rfl (.cons (okmath_IsInf) rfl (.cons (stub_ok _ _) rfl (.cons (stub_ok _ _) rfl (.cons (stub_ok _ _) rfl (.cons ext155 rfl GamOk.nil))))))))))) namesA
noncomputable def kspan_Mul_c1 : Mo := mspan_Mul_c1 kround_Mul NN
theorem okspan_Mul_c1 : SmOk Pr 93 (smM Rspan_Mul_c1 kspan_Mul_c1) := gspan_Mul_c1_sm kround_Mul NN (show GamOk Pr (Gspan_Mul_c1 kround_Mul) from (.cons (okround_Mul) rfl GamOk.nil)) namesA
noncomputable def kround_Div : Mo := mround_Div kround_way kround_finite kround_plain kround_sign kround_settle kmath_IsInf kround_of kround_times kround_cmp NN
theorem okround_Div : SmOk Pr 223 (smM Rround_Div kround_Div) := ground_Div_sm kround_way kround_finite kround_plain kround_sign kround_settle kmath_IsInf kround_of kround_times kround_cmp NN (show GamOk Pr (Ground_Div kround_way kround_finite kround_plain kround_sign kround_settle kmath_IsInf kround_of kround_times kround_cmp) from (.cons (okround_way) rfl (.cons (okround_finite) rfl (.cons (okround_plain) rfl (.cons (okround_sign) rfl (.cons (okround_settle) rfl (.cons (okmath_IsInf) rfl (.cons (stub_ok _ _) rfl (.cons (stub_ok _ _) rfl (.cons (stub_ok _ _) rfl (.cons ext155 rfl GamOk.nil))))))))))) namesA
noncomputable def kspan_Div_c1 : Mo := mspan_Div_c1 kround_Div NN
theorem okspan_Div_c1 : SmOk Pr 222 (smM Rspan_Div_c1 kspan_Div_c1) := gspan_Div_c1_sm kround_Div NN (show GamOk Pr (Gspan_Div_c1 kround_Div) from (.cons (okround_Div) rfl GamOk.nil)) namesA
noncomputable def kspan_corners_a : Mo := mspan_corners_a kspan_lesser kspan_greater kspan_Mul_c1 kspan_Div_c1 NN
theorem okspan_corners_a : XOk Pr 92 (smX Rspan_corners_a Xspan_corners_a kspan_corners_a) Xspan_corners_a := gspan_corners_a_sm kspan_lesser kspan_greater kspan_Mul_c1 kspan_Div_c1 NN (show GamOk Pr (Gspan_corners_a kspan_lesser kspan_greater kspan_Mul_c1 kspan_Div_c1) from (.cons (okspan_lesser) rfl (.cons (okspan_greater) rfl (.cons (okspan_Mul_c1) rfl (.cons (okspan_Div_c1) rfl GamOk.nil))))) namesA
noncomputable def kspan_corners_b : Mo := mspan_corners_b kspan_lesser kspan_greater kspan_Mul_c1 kspan_Div_c1 NN
theorem okspan_corners_b : XOk Pr 92 (smX Rspan_corners_b Xspan_corners_b kspan_corners_b) Xspan_corners_b := gspan_corners_b_sm kspan_lesser kspan_greater kspan_Mul_c1 kspan_Div_c1 NN (show GamOk Pr (Gspan_corners_b kspan_lesser kspan_greater kspan_Mul_c1 kspan_Div_c1) from (.cons (okspan_lesser) rfl (.cons (okspan_greater) rfl (.cons (okspan_Mul_c1) rfl (.cons (okspan_Div_c1) rfl GamOk.nil))))) namesA
noncomputable def kspan_Mul : Mo := mspan_Mul kspan_right kspan_Mul_c1 kspan_corners_a kspan_corners_b NN
theorem okspan_Mul : SmOk Pr 46 (smM Rspan_Mul kspan_Mul) := gspan_Mul_sm kspan_right kspan_Mul_c1 kspan_corners_a kspan_corners_b NN (show GamOk Pr (Gspan_Mul kspan_right kspan_Mul_c1 kspan_corners_a kspan_corners_b) from (.cons (okspan_right) rfl (.cons (okspan_Mul_c1) rfl (.consX rfl okspan_corners_a (.consX rfl okspan_corners_b GamOk.nil))))) namesA
noncomputable def kbars_times : Mo := mbars_times kspan_Mul NN
theorem okbars_times : SmOk Pr 121 (smM Rbars_times kbars_times) := gbars_times_sm kspan_Mul NN (show GamOk Pr (Gbars_times kspan_Mul) from (.cons (okspan_Mul) rfl GamOk.nil)) namesA
noncomputable def kspan_Div : Mo := mspan_Div kspan_right kspan_Div_c1 kspan_corners_a kspan_corners_b NN
theorem okspan_Div : SmOk Pr 184 (smM Rspan_Div kspan_Div) := gspan_Div_sm kspan_right kspan_Div_c1 kspan_corners_a kspan_corners_b NN (show GamOk Pr (Gspan_Div kspan_right kspan_Div_c1 kspan_corners_a kspan_corners_b) from (.cons (okspan_right) rfl (.cons (okspan_Div_c1) rfl (.consX rfl okspan_corners_a (.consX rfl okspan_corners_b GamOk.nil))))) namesA
noncomputable def kbars_spring : Mo := mbars_spring kspan_Div NN
theorem okbars_spring : SmOk Pr 120 (smM Rbars_spring kbars_spring) := gbars_spring_sm kspan_Div NN (show GamOk Pr (Gbars_spring kspan_Div) from (.cons (okspan_Div) rfl GamOk.nil)) namesA
noncomputable def kbars_stands : Mo := mbars_stands  NN
theorem okbars_stands : SmOk Pr 124 (smM Rbars_stands kbars_stands) := gbars_stands_sm  NN (show GamOk Pr (Gbars_stands ) from GamOk.nil) namesA
noncomputable def kbars_springs_c1 : Mo := mbars_springs_c1 kbars_one kbars_times kbars_spring NN
theorem okbars_springs_c1 : SmOk Pr 123 (smM Rbars_springs_c1 kbars_springs_c1) := gbars_springs_c1_sm kbars_one kbars_times kbars_spring NN (show GamOk Pr (Gbars_springs_c1 kbars_one kbars_times kbars_spring) from (.cons (okbars_one) rfl (.cons (okbars_times) rfl (.cons (okbars_spring) rfl GamOk.nil)))) namesA
noncomputable def kbars_springs_a : Mo := mbars_springs_a kjoints_Apart kjoints_Length kbars_one kbars_times kbars_spring kbars_stands kbars_springs_c1 NN
theorem okbars_springs_a : XOk Pr 68 (smX Rbars_springs_a Xbars_springs_a kbars_springs_a) Xbars_springs_a := gbars_springs_a_sm kjoints_Apart kjoints_Length kbars_one kbars_times kbars_spring kbars_stands kbars_springs_c1 NN (show GamOk Pr (Gbars_springs_a kjoints_Apart kjoints_Length kbars_one kbars_times kbars_spring kbars_stands kbars_springs_c1) from (.cons (okjoints_Apart) rfl (.cons (okjoints_Length) rfl (.cons (okbars_one) rfl (.cons (okbars_times) rfl (.cons (okbars_spring) rfl (.cons (okbars_stands) rfl (.cons (okbars_springs_c1) rfl GamOk.nil)))))))) namesA
noncomputable def kbars_Springs_a : Mo := mbars_Springs_a kbars_Check kbars_springs_a NN
theorem okbars_Springs_a : XOk Pr 23 (smX Rbars_Springs_a Xbars_Springs_a kbars_Springs_a) Xbars_Springs_a := gbars_Springs_a_sm kbars_Check kbars_springs_a NN (show GamOk Pr (Gbars_Springs_a kbars_Check kbars_springs_a) from (.cons (okbars_Check) rfl (.consX rfl okbars_springs_a GamOk.nil))) namesA
noncomputable def kref02_NatTrim : Mo := mref02_NatTrim  NN
theorem okref02_NatTrim : SmOk Pr 200 (smM Rref02_NatTrim kref02_NatTrim) := gref02_NatTrim_sm  NN (show GamOk Pr (Gref02_NatTrim ) from GamOk.nil) namesA
noncomputable def kref02_NatOf : Mo := mref02_NatOf kref02_NatTrim NN
theorem okref02_NatOf : SmOk Pr 147 (smM Rref02_NatOf kref02_NatOf) := gref02_NatOf_sm kref02_NatTrim NN (show GamOk Pr (Gref02_NatOf kref02_NatTrim) from (.cons (okref02_NatTrim) rfl GamOk.nil)) namesA
noncomputable def kref02_Whole : Mo := mref02_Whole kref02_NatOf NN
theorem okref02_Whole : SmOk Pr 90 (smM Rref02_Whole kref02_Whole) := gref02_Whole_sm kref02_NatOf NN (show GamOk Pr (Gref02_Whole kref02_NatOf) from (.cons (okref02_NatOf) rfl GamOk.nil)) namesA
noncomputable def kref02_low : Mo := mref02_low  NN
theorem okref02_low : SmOk Pr 251 (smM Rref02_low kref02_low) := gref02_low_sm  NN (show GamOk Pr (Gref02_low ) from GamOk.nil) namesA
noncomputable def kref02_halves : Mo := mref02_halves kref02_low NN
theorem okref02_halves : SmOk Pr 230 (smM Rref02_halves kref02_halves) := gref02_halves_sm kref02_low NN (show GamOk Pr (Gref02_halves kref02_low) from (.cons (okref02_low) rfl GamOk.nil)) namesA
noncomputable def kref02_short : Mo := mref02_short kref02_low NN
theorem okref02_short : SmOk Pr 231 (smM Rref02_short kref02_short) := gref02_short_sm kref02_low NN (show GamOk Pr (Gref02_short kref02_low) from (.cons (okref02_low) rfl GamOk.nil)) namesA
noncomputable def kref02_limbs : Mo := mref02_limbs kref02_NatTrim NN
theorem okref02_limbs : SmOk Pr 232 (smM Rref02_limbs kref02_limbs) := gref02_limbs_sm kref02_NatTrim NN (show GamOk Pr (Gref02_limbs kref02_NatTrim) from (.cons (okref02_NatTrim) rfl GamOk.nil)) namesA
noncomputable def kref02_NatDown : Mo := mref02_NatDown kref02_halves kref02_short kref02_limbs NN
theorem okref02_NatDown : SmOk Pr 201 (smM Rref02_NatDown kref02_NatDown) := gref02_NatDown_sm kref02_halves kref02_short kref02_limbs NN (show GamOk Pr (Gref02_NatDown kref02_halves kref02_short kref02_limbs) from (.cons (okref02_halves) rfl (.cons (okref02_short) rfl (.cons (okref02_limbs) rfl GamOk.nil)))) namesA
noncomputable def kref02_Norm : Mo := mref02_Norm kref02_NatTrim kref02_NatDown NN
theorem okref02_Norm : SmOk Pr 146 (smM Rref02_Norm kref02_Norm) := gref02_Norm_sm kref02_NatTrim kref02_NatDown NN (show GamOk Pr (Gref02_Norm kref02_NatTrim kref02_NatDown) from (.cons (okref02_NatTrim) rfl (.cons (okref02_NatDown) rfl GamOk.nil))) namesA
noncomputable def kref02_Told : Mo := mref02_Told kref02_Norm NN
theorem okref02_Told : SmOk Pr 89 (smM Rref02_Told kref02_Told) := gref02_Told_sm kref02_Norm NN (show GamOk Pr (Gref02_Told kref02_Norm) from (.cons (okref02_Norm) rfl GamOk.nil)) namesA
noncomputable def kref02_Int : Mo := mref02_Int kref02_Whole kref02_Told NN
theorem okref02_Int : SmOk Pr 42 (smM Rref02_Int kref02_Int) := gref02_Int_sm kref02_Whole kref02_Told NN (show GamOk Pr (Gref02_Int kref02_Whole kref02_Told) from (.cons (okref02_Whole) rfl (.cons (okref02_Told) rfl GamOk.nil))) namesA
noncomputable def klaw22_ones : Mo := mlaw22_ones kref02_Int NN
theorem oklaw22_ones : SmOk Pr 9 (smM Rlaw22_ones klaw22_ones) := glaw22_ones_sm kref02_Int NN (show GamOk Pr (Glaw22_ones kref02_Int) from (.cons (okref02_Int) rfl GamOk.nil)) namesA
noncomputable def kdyad_Right : Mo := mdyad_Right  NN
theorem okdyad_Right : SmOk Pr 27 (smM Rdyad_Right kdyad_Right) := gdyad_Right_sm  NN (show GamOk Pr (Gdyad_Right ) from GamOk.nil) namesA
noncomputable def kbits_Kind : Mo := mbits_Kind kmath_Abs kmath_IsInf NN
theorem okbits_Kind : SmOk Pr 186 (smM Rbits_Kind kbits_Kind) := gbits_Kind_sm kmath_Abs kmath_IsInf NN (show GamOk Pr (Gbits_Kind kmath_Abs kmath_IsInf) from (.cons (okmath_Abs) rfl (.cons (okmath_IsInf) rfl GamOk.nil))) namesA
noncomputable def kmath_archFrexp : Mo := mmath_archFrexp  NN
theorem okmath_archFrexp : SmOk Pr 224 (smM Rmath_archFrexp kmath_archFrexp) := gmath_archFrexp_sm  NN (show GamOk Pr (Gmath_archFrexp ) from GamOk.nil) namesA
noncomputable def kmath_normalize : Mo := mmath_normalize kmath_Abs NN
theorem okmath_normalize : SmOk Pr 250 (smM Rmath_normalize kmath_normalize) := gmath_normalize_sm kmath_Abs NN (show GamOk Pr (Gmath_normalize kmath_Abs) from (.cons (okmath_Abs) rfl GamOk.nil)) namesA
noncomputable def kmath_frexp : Mo := mmath_frexp kmath_IsInf kmath_IsNaN kmath_normalize NN
theorem okmath_frexp : SmOk Pr 225 (smM Rmath_frexp kmath_frexp) := gmath_frexp_sm kmath_IsInf kmath_IsNaN kmath_normalize NN (show GamOk Pr (Gmath_frexp kmath_IsInf kmath_IsNaN kmath_normalize) from (.cons (okmath_IsInf) rfl (.cons (okmath_IsNaN) rfl (.cons (okmath_normalize) rfl (.cons ext66 rfl (.cons ext185 rfl GamOk.nil)))))) namesA
noncomputable def kmath_Frexp : Mo := mmath_Frexp kmath_archFrexp kmath_frexp NN
theorem okmath_Frexp : SmOk Pr 187 (smM Rmath_Frexp kmath_Frexp) := gmath_Frexp_sm kmath_archFrexp kmath_frexp NN (show GamOk Pr (Gmath_Frexp kmath_archFrexp kmath_frexp) from (.cons (okmath_archFrexp) rfl (.cons (okmath_frexp) rfl GamOk.nil))) namesA
noncomputable def kdyad_Sign : Mo := mdyad_Sign kdyad_Right NN
theorem okdyad_Sign : SmOk Pr 128 (smM Rdyad_Sign kdyad_Sign) := gdyad_Sign_sm kdyad_Right NN (show GamOk Pr (Gdyad_Sign kdyad_Right) from (.cons (okdyad_Right) rfl GamOk.nil)) namesA
noncomputable def ktrim : Mo := mtrim  NN
theorem oktrim : SmOk Pr 195 (smM Rtrim ktrim) := gtrim_sm  NN (show GamOk Pr (Gtrim ) from GamOk.nil) namesA
noncomputable def kleft : Mo := mleft ktrim NN
theorem okleft : SmOk Pr 138 (smM Rleft kleft) := gleft_sm ktrim NN (show GamOk Pr (Gleft ktrim) from (.cons (oktrim) rfl GamOk.nil)) namesA
noncomputable def kInt_give_i : Mo := mInt_give_i  NN
theorem okInt_give_i : XOk Pr 133 (smX RInt_give_i XInt_give_i kInt_give_i) XInt_give_i := gInt_give_i_sm  NN (show GamOk Pr (GInt_give_i ) from GamOk.nil) namesA
noncomputable def kInt_give_ra : Mo := mInt_give_ra  NN
theorem okInt_give_ra : XOk Pr 133 (smX RInt_give_ra XInt_give_ra kInt_give_ra) XInt_give_ra := gInt_give_ra_sm  NN (show GamOk Pr (GInt_give_ra ) from GamOk.nil) namesA
noncomputable def kInt_give_rb : Mo := mInt_give_rb  NN
theorem okInt_give_rb : XOk Pr 133 (smX RInt_give_rb XInt_give_rb kInt_give_rb) XInt_give_rb := gInt_give_rb_sm  NN (show GamOk Pr (GInt_give_rb ) from GamOk.nil) namesA
noncomputable def kwords : Mo := mwords ktrim NN
theorem okwords : SmOk Pr 194 (smM Rwords kwords) := gwords_sm ktrim NN (show GamOk Pr (Gwords ktrim) from (.cons (oktrim) rfl GamOk.nil)) namesA
noncomputable def kInt_SetUint64_i : Mo := mInt_SetUint64_i kwords kInt_give_i kInt_give_ra kInt_give_rb NN
theorem okInt_SetUint64_i : XOk Pr 142 (smX RInt_SetUint64_i XInt_SetUint64_i kInt_SetUint64_i) XInt_SetUint64_i := gInt_SetUint64_i_sm kwords kInt_give_i kInt_give_ra kInt_give_rb NN (show GamOk Pr (GInt_SetUint64_i kwords kInt_give_i kInt_give_ra kInt_give_rb) from (.cons (okwords) rfl (.consX rfl okInt_give_i (.consX rfl okInt_give_ra (.consX rfl okInt_give_rb GamOk.nil))))) namesA
noncomputable def kInt_low_a : Mo := mInt_low_a  NN
theorem okInt_low_a : XOk Pr 198 (smX RInt_low_a XInt_low_a kInt_low_a) XInt_low_a := gInt_low_a_sm  NN (show GamOk Pr (GInt_low_a ) from GamOk.nil) namesA
noncomputable def kInt_of_a : Mo := mInt_of_a ktrim kInt_give_i kInt_give_ra kInt_give_rb NN
theorem okInt_of_a : XOk Pr 199 (smX RInt_of_a XInt_of_a kInt_of_a) XInt_of_a := gInt_of_a_sm ktrim kInt_give_i kInt_give_ra kInt_give_rb NN (show GamOk Pr (GInt_of_a ktrim kInt_give_i kInt_give_ra kInt_give_rb) from (.cons (oktrim) rfl (.consX rfl okInt_give_i (.consX rfl okInt_give_ra (.consX rfl okInt_give_rb GamOk.nil))))) namesA
noncomputable def kInt_Or_a : Mo := mInt_Or_a kInt_low_a kInt_of_a NN
theorem okInt_Or_a : XOk Pr 141 (smX RInt_Or_a XInt_Or_a kInt_Or_a) XInt_Or_a := gInt_Or_a_sm kInt_low_a kInt_of_a NN (show GamOk Pr (GInt_Or_a kInt_low_a kInt_of_a) from (.consX rfl okInt_low_a (.consX rfl okInt_of_a GamOk.nil))) namesA
noncomputable def ktwin : Mo := mtwin  NN
theorem oktwin : SmOk Pr 137 (smM Rtwin ktwin) := gtwin_sm  NN (show GamOk Pr (Gtwin ) from GamOk.nil) namesA
noncomputable def kInt_Neg_ra : Mo := mInt_Neg_ra ktwin kInt_give_i kInt_give_ra kInt_give_rb NN
theorem okInt_Neg_ra : XOk Pr 79 (smX RInt_Neg_ra XInt_Neg_ra kInt_Neg_ra) XInt_Neg_ra := gInt_Neg_ra_sm ktwin kInt_give_i kInt_give_ra kInt_give_rb NN (show GamOk Pr (GInt_Neg_ra ktwin kInt_give_i kInt_give_ra kInt_give_rb) from (.cons (oktwin) rfl (.consX rfl okInt_give_i (.consX rfl okInt_give_ra (.consX rfl okInt_give_rb GamOk.nil))))) namesA
noncomputable def kInt_Neg_rb : Mo := mInt_Neg_rb ktwin kInt_give_i kInt_give_ra kInt_give_rb NN
theorem okInt_Neg_rb : XOk Pr 79 (smX RInt_Neg_rb XInt_Neg_rb kInt_Neg_rb) XInt_Neg_rb := gInt_Neg_rb_sm ktwin kInt_give_i kInt_give_ra kInt_give_rb NN (show GamOk Pr (GInt_Neg_rb ktwin kInt_give_i kInt_give_ra kInt_give_rb) from (.cons (oktwin) rfl (.consX rfl okInt_give_i (.consX rfl okInt_give_ra (.consX rfl okInt_give_rb GamOk.nil))))) namesA
noncomputable def kInt_Neg_ii : Mo := mInt_Neg_ii ktwin kInt_give_i kInt_give_ra kInt_give_rb NN
theorem okInt_Neg_ii : XOk Pr 79 (smX RInt_Neg_ii XInt_Neg_ii kInt_Neg_ii) XInt_Neg_ii := gInt_Neg_ii_sm ktwin kInt_give_i kInt_give_ra kInt_give_rb NN (show GamOk Pr (GInt_Neg_ii ktwin kInt_give_i kInt_give_ra kInt_give_rb) from (.cons (oktwin) rfl (.consX rfl okInt_give_i (.consX rfl okInt_give_ra (.consX rfl okInt_give_rb GamOk.nil))))) namesA
noncomputable def kdyad_whole_a : Mo := mdyad_whole_a kleft kInt_give_i kInt_give_ra kInt_give_rb kInt_SetUint64_i kInt_Or_a kInt_Neg_ra kInt_Neg_rb kInt_Neg_ii NN
theorem okdyad_whole_a : XOk Pr 82 (smX Rdyad_whole_a Xdyad_whole_a kdyad_whole_a) Xdyad_whole_a := gdyad_whole_a_sm kleft kInt_give_i kInt_give_ra kInt_give_rb kInt_SetUint64_i kInt_Or_a kInt_Neg_ra kInt_Neg_rb kInt_Neg_ii NN (show GamOk Pr (Gdyad_whole_a kleft kInt_give_i kInt_give_ra kInt_give_rb kInt_SetUint64_i kInt_Or_a kInt_Neg_ra kInt_Neg_rb kInt_Neg_ii) from (.cons (okleft) rfl (.consX rfl okInt_give_i (.consX rfl okInt_give_ra (.consX rfl okInt_give_rb (.consX rfl okInt_SetUint64_i (.consX rfl okInt_Or_a (.consX rfl okInt_Neg_ra (.consX rfl okInt_Neg_rb (.consX rfl okInt_Neg_ii GamOk.nil)))))))))) namesA
noncomputable def kcmp : Mo := mcmp  NN
theorem okcmp : SmOk Pr 191 (smM Rcmp kcmp) := gcmp_sm  NN (show GamOk Pr (Gcmp ) from GamOk.nil) namesA
noncomputable def kRat_Sign_r : Mo := mRat_Sign_r  NN
theorem okRat_Sign_r : XOk Pr 37 (smX RRat_Sign_r XRat_Sign_r kRat_Sign_r) XRat_Sign_r := gRat_Sign_r_sm  NN (show GamOk Pr (GRat_Sign_r ) from GamOk.nil) namesA
noncomputable def kInt_Abs_ir : Mo := mInt_Abs_ir ktwin kInt_give_i kInt_give_ra kInt_give_rb NN
theorem okInt_Abs_ir : XOk Pr 84 (smX RInt_Abs_ir XInt_Abs_ir kInt_Abs_ir) XInt_Abs_ir := gInt_Abs_ir_sm ktwin kInt_give_i kInt_give_ra kInt_give_rb NN (show GamOk Pr (GInt_Abs_ir ktwin kInt_give_i kInt_give_ra kInt_give_rb) from (.cons (oktwin) rfl (.consX rfl okInt_give_i (.consX rfl okInt_give_ra (.consX rfl okInt_give_rb GamOk.nil))))) namesA
noncomputable def kInt_Abs_ii : Mo := mInt_Abs_ii ktwin kInt_give_i kInt_give_ra kInt_give_rb NN
theorem okInt_Abs_ii : XOk Pr 84 (smX RInt_Abs_ii XInt_Abs_ii kInt_Abs_ii) XInt_Abs_ii := gInt_Abs_ii_sm ktwin kInt_give_i kInt_give_ra kInt_give_rb NN (show GamOk Pr (GInt_Abs_ii ktwin kInt_give_i kInt_give_ra kInt_give_rb) from (.cons (oktwin) rfl (.consX rfl okInt_give_i (.consX rfl okInt_give_ra (.consX rfl okInt_give_rb GamOk.nil))))) namesA
noncomputable def kInt_Uint64_i : Mo := mInt_Uint64_i  NN
theorem okInt_Uint64_i : XOk Pr 86 (smX RInt_Uint64_i XInt_Uint64_i kInt_Uint64_i) XInt_Uint64_i := gInt_Uint64_i_sm  NN (show GamOk Pr (GInt_Uint64_i ) from GamOk.nil) namesA
noncomputable def ksub : Mo := msub ktrim NN
theorem oksub : SmOk Pr 145 (smM Rsub ksub) := gsub_sm ktrim NN (show GamOk Pr (Gsub ktrim) from (.cons (oktrim) rfl GamOk.nil)) namesA
noncomputable def kright : Mo := mright ktrim NN
theorem okright : SmOk Pr 144 (smM Rright kright) := gright_sm ktrim NN (show GamOk Pr (Gright ktrim) from (.cons (oktrim) rfl GamOk.nil)) namesA
noncomputable def kadd : Mo := madd ktrim NN
theorem okadd : SmOk Pr 143 (smM Radd kadd) := gadd_sm ktrim NN (show GamOk Pr (Gadd ktrim) from (.cons (oktrim) rfl GamOk.nil)) namesA
noncomputable def kInt_Rsh_ii : Mo := mInt_Rsh_ii ksub kright kadd kInt_give_i kInt_give_ra kInt_give_rb NN
theorem okInt_Rsh_ii : XOk Pr 85 (smX RInt_Rsh_ii XInt_Rsh_ii kInt_Rsh_ii) XInt_Rsh_ii := gInt_Rsh_ii_sm ksub kright kadd kInt_give_i kInt_give_ra kInt_give_rb NN (show GamOk Pr (GInt_Rsh_ii ksub kright kadd kInt_give_i kInt_give_ra kInt_give_rb) from (.cons (oksub) rfl (.cons (okright) rfl (.cons (okadd) rfl (.consX rfl okInt_give_i (.consX rfl okInt_give_ra (.consX rfl okInt_give_rb GamOk.nil))))))) namesA
noncomputable def kInt_Rsh_p : Mo := mInt_Rsh_p ksub kright kadd kInt_give_i kInt_give_ra kInt_give_rb NN
theorem okInt_Rsh_p : XOk Pr 85 (smX RInt_Rsh_p XInt_Rsh_p kInt_Rsh_p) XInt_Rsh_p := gInt_Rsh_p_sm ksub kright kadd kInt_give_i kInt_give_ra kInt_give_rb NN (show GamOk Pr (GInt_Rsh_p ksub kright kadd kInt_give_i kInt_give_ra kInt_give_rb) from (.cons (oksub) rfl (.cons (okright) rfl (.cons (okadd) rfl (.consX rfl okInt_give_i (.consX rfl okInt_give_ra (.consX rfl okInt_give_rb GamOk.nil))))))) namesA
noncomputable def kexact_Limbs_a : Mo := mexact_Limbs_a kInt_Abs_ir kInt_Abs_ii kInt_Uint64_i kInt_Rsh_ii kInt_Rsh_p NN
theorem okexact_Limbs_a : XOk Pr 38 (smX Rexact_Limbs_a Xexact_Limbs_a kexact_Limbs_a) Xexact_Limbs_a := gexact_Limbs_a_sm kInt_Abs_ir kInt_Abs_ii kInt_Uint64_i kInt_Rsh_ii kInt_Rsh_p NN (show GamOk Pr (Gexact_Limbs_a kInt_Abs_ir kInt_Abs_ii kInt_Uint64_i kInt_Rsh_ii kInt_Rsh_p) from (.consX rfl okInt_Abs_ir (.consX rfl okInt_Abs_ii (.consX rfl okInt_Uint64_i (.consX rfl okInt_Rsh_ii (.consX rfl okInt_Rsh_p GamOk.nil)))))) namesA
noncomputable def kexact_Limbs_r : Mo := mexact_Limbs_r kInt_Abs_ir kInt_Abs_ii kInt_Uint64_i kInt_Rsh_ii kInt_Rsh_p NN
theorem okexact_Limbs_r : XOk Pr 38 (smX Rexact_Limbs_r Xexact_Limbs_r kexact_Limbs_r) Xexact_Limbs_r := gexact_Limbs_r_sm kInt_Abs_ir kInt_Abs_ii kInt_Uint64_i kInt_Rsh_ii kInt_Rsh_p NN (show GamOk Pr (Gexact_Limbs_r kInt_Abs_ir kInt_Abs_ii kInt_Uint64_i kInt_Rsh_ii kInt_Rsh_p) from (.consX rfl okInt_Abs_ir (.consX rfl okInt_Abs_ii (.consX rfl okInt_Uint64_i (.consX rfl okInt_Rsh_ii (.consX rfl okInt_Rsh_p GamOk.nil)))))) namesA
noncomputable def kInt_SetInt64_rb : Mo := mInt_SetInt64_rb kwords kInt_give_i kInt_give_ra kInt_give_rb NN
theorem okInt_SetInt64_rb : XOk Pr 132 (smX RInt_SetInt64_rb XInt_SetInt64_rb kInt_SetInt64_rb) XInt_SetInt64_rb := gInt_SetInt64_rb_sm kwords kInt_give_i kInt_give_ra kInt_give_rb NN (show GamOk Pr (GInt_SetInt64_rb kwords kInt_give_i kInt_give_ra kInt_give_rb) from (.cons (okwords) rfl (.consX rfl okInt_give_i (.consX rfl okInt_give_ra (.consX rfl okInt_give_rb GamOk.nil))))) namesA
noncomputable def kInt_SetInt64_i : Mo := mInt_SetInt64_i kwords kInt_give_i kInt_give_ra kInt_give_rb NN
theorem okInt_SetInt64_i : XOk Pr 132 (smX RInt_SetInt64_i XInt_SetInt64_i kInt_SetInt64_i) XInt_SetInt64_i := gInt_SetInt64_i_sm kwords kInt_give_i kInt_give_ra kInt_give_rb NN (show GamOk Pr (GInt_SetInt64_i kwords kInt_give_i kInt_give_ra kInt_give_rb) from (.cons (okwords) rfl (.consX rfl okInt_give_i (.consX rfl okInt_give_ra (.consX rfl okInt_give_rb GamOk.nil))))) namesA
noncomputable def kNewInt_a : Mo := mNewInt_a kInt_SetInt64_rb kInt_SetInt64_i NN
theorem okNewInt_a : XOk Pr 74 (smX RNewInt_a XNewInt_a kNewInt_a) XNewInt_a := gNewInt_a_sm kInt_SetInt64_rb kInt_SetInt64_i NN (show GamOk Pr (GNewInt_a kInt_SetInt64_rb kInt_SetInt64_i) from (.consX rfl okInt_SetInt64_rb (.consX rfl okInt_SetInt64_i GamOk.nil))) namesA
noncomputable def kRat_den_b : Mo := mRat_den_b kNewInt_a NN
theorem okRat_den_b : XOk Pr 76 (smX RRat_den_b XRat_den_b kRat_den_b) XRat_den_b := gRat_den_b_sm kNewInt_a NN (show GamOk Pr (GRat_den_b kNewInt_a) from (.consX rfl okNewInt_a GamOk.nil)) namesA
noncomputable def kInt_Set_ii : Mo := mInt_Set_ii ktwin kInt_give_i kInt_give_ra kInt_give_rb NN
theorem okInt_Set_ii : XOk Pr 87 (smX RInt_Set_ii XInt_Set_ii kInt_Set_ii) XInt_Set_ii := gInt_Set_ii_sm ktwin kInt_give_i kInt_give_ra kInt_give_rb NN (show GamOk Pr (GInt_Set_ii ktwin kInt_give_i kInt_give_ra kInt_give_rb) from (.cons (oktwin) rfl (.consX rfl okInt_give_i (.consX rfl okInt_give_ra (.consX rfl okInt_give_rb GamOk.nil))))) namesA
noncomputable def kInt_Set_ir : Mo := mInt_Set_ir ktwin kInt_give_i kInt_give_ra kInt_give_rb NN
theorem okInt_Set_ir : XOk Pr 87 (smX RInt_Set_ir XInt_Set_ir kInt_Set_ir) XInt_Set_ir := gInt_Set_ir_sm ktwin kInt_give_i kInt_give_ra kInt_give_rb NN (show GamOk Pr (GInt_Set_ir ktwin kInt_give_i kInt_give_ra kInt_give_rb) from (.cons (oktwin) rfl (.consX rfl okInt_give_i (.consX rfl okInt_give_ra (.consX rfl okInt_give_rb GamOk.nil))))) namesA
noncomputable def kRat_Denom_r : Mo := mRat_Denom_r kRat_den_b kInt_Set_ii kInt_Set_ir NN
theorem okRat_Denom_r : XOk Pr 40 (smX RRat_Denom_r XRat_Denom_r kRat_Denom_r) XRat_Denom_r := gRat_Denom_r_sm kRat_den_b kInt_Set_ii kInt_Set_ir NN (show GamOk Pr (GRat_Denom_r kRat_den_b kInt_Set_ii kInt_Set_ir) from (.consX rfl okRat_den_b (.consX rfl okInt_Set_ii (.consX rfl okInt_Set_ir GamOk.nil)))) namesA
noncomputable def klength : Mo := mlength  NN
theorem oklength : SmOk Pr 88 (smM Rlength klength) := glength_sm  NN (show GamOk Pr (Glength ) from GamOk.nil) namesA
noncomputable def kInt_BitLen_i : Mo := mInt_BitLen_i klength NN
theorem okInt_BitLen_i : XOk Pr 41 (smX RInt_BitLen_i XInt_BitLen_i kInt_BitLen_i) XInt_BitLen_i := gInt_BitLen_i_sm klength NN (show GamOk Pr (GInt_BitLen_i klength) from (.cons (oklength) rfl GamOk.nil)) namesA
noncomputable def kbit : Mo := mbit  NN
theorem okbit : SmOk Pr 196 (smM Rbit kbit) := gbit_sm  NN (show GamOk Pr (Gbit ) from GamOk.nil) namesA
noncomputable def kInt_TrailingZeroBits_a : Mo := mInt_TrailingZeroBits_a kbit NN
theorem okInt_TrailingZeroBits_a : XOk Pr 139 (smX RInt_TrailingZeroBits_a XInt_TrailingZeroBits_a kInt_TrailingZeroBits_a) XInt_TrailingZeroBits_a := gInt_TrailingZeroBits_a_sm kbit NN (show GamOk Pr (GInt_TrailingZeroBits_a kbit) from (.cons (okbit) rfl GamOk.nil)) namesA
noncomputable def kInt_And_a : Mo := mInt_And_a kInt_low_a kInt_of_a NN
theorem okInt_And_a : XOk Pr 197 (smX RInt_And_a XInt_And_a kInt_And_a) XInt_And_a := gInt_And_a_sm kInt_low_a kInt_of_a NN (show GamOk Pr (GInt_And_a kInt_low_a kInt_of_a) from (.consX rfl okInt_low_a (.consX rfl okInt_of_a GamOk.nil))) namesA
noncomputable def kInt_And_pp : Mo := mInt_And_pp kInt_low_a kInt_of_a NN
theorem okInt_And_pp : XOk Pr 197 (smX RInt_And_pp XInt_And_pp kInt_And_pp) XInt_And_pp := gInt_And_pp_sm kInt_low_a kInt_of_a NN (show GamOk Pr (GInt_And_pp kInt_low_a kInt_of_a) from (.consX rfl okInt_low_a (.consX rfl okInt_of_a GamOk.nil))) namesA
noncomputable def kdyad_limbs_a : Mo := mdyad_limbs_a kInt_Abs_ir kInt_Abs_ii kInt_SetUint64_i kInt_And_a kInt_And_pp kInt_Uint64_i kInt_Rsh_ii kInt_Rsh_p NN
theorem okdyad_limbs_a : XOk Pr 140 (smX Rdyad_limbs_a Xdyad_limbs_a kdyad_limbs_a) Xdyad_limbs_a := gdyad_limbs_a_sm kInt_Abs_ir kInt_Abs_ii kInt_SetUint64_i kInt_And_a kInt_And_pp kInt_Uint64_i kInt_Rsh_ii kInt_Rsh_p NN (show GamOk Pr (Gdyad_limbs_a kInt_Abs_ir kInt_Abs_ii kInt_SetUint64_i kInt_And_a kInt_And_pp kInt_Uint64_i kInt_Rsh_ii kInt_Rsh_p) from (.consX rfl okInt_Abs_ir (.consX rfl okInt_Abs_ii (.consX rfl okInt_SetUint64_i (.consX rfl okInt_And_a (.consX rfl okInt_And_pp (.consX rfl okInt_Uint64_i (.consX rfl okInt_Rsh_ii (.consX rfl okInt_Rsh_p GamOk.nil))))))))) namesA
noncomputable def kplain : Mo := mplain  NN
theorem okplain : SmOk Pr 228 (smM Rplain kplain) := gplain_sm  NN (show GamOk Pr (Gplain ) from GamOk.nil) namesA
noncomputable def ksmall : Mo := msmall ktrim NN
theorem oksmall : SmOk Pr 229 (smM Rsmall ksmall) := gsmall_sm ktrim NN (show GamOk Pr (Gsmall ktrim) from (.cons (oktrim) rfl GamOk.nil)) namesA
noncomputable def kdiv : Mo := mdiv kcmp ktwin kplain kwords ksmall ktrim klength kleft kright NN
theorem okdiv : SmOk Pr 193 (smM Rdiv kdiv) := gdiv_sm kcmp ktwin kplain kwords ksmall ktrim klength kleft kright NN (show GamOk Pr (Gdiv kcmp ktwin kplain kwords ksmall ktrim klength kleft kright) from (.cons (okcmp) rfl (.cons (oktwin) rfl (.cons (okplain) rfl (.cons (okwords) rfl (.cons (oksmall) rfl (.cons (oktrim) rfl (.cons (oklength) rfl (.cons (okleft) rfl (.cons (okright) rfl GamOk.nil)))))))))) namesA
noncomputable def kcommon : Mo := mcommon kdiv kplain kwords NN
theorem okcommon : SmOk Pr 192 (smM Rcommon kcommon) := gcommon_sm kdiv kplain kwords NN (show GamOk Pr (Gcommon kdiv kplain kwords) from (.cons (okdiv) rfl (.cons (okplain) rfl (.cons (okwords) rfl GamOk.nil)))) namesA
noncomputable def kRat_norm_a : Mo := mRat_norm_a kcommon kdiv kInt_SetInt64_rb kInt_SetInt64_i kInt_Neg_ra kInt_Neg_rb kInt_Neg_ii NN
theorem okRat_norm_a : XOk Pr 131 (smX RRat_norm_a XRat_norm_a kRat_norm_a) XRat_norm_a := gRat_norm_a_sm kcommon kdiv kInt_SetInt64_rb kInt_SetInt64_i kInt_Neg_ra kInt_Neg_rb kInt_Neg_ii NN (show GamOk Pr (GRat_norm_a kcommon kdiv kInt_SetInt64_rb kInt_SetInt64_i kInt_Neg_ra kInt_Neg_rb kInt_Neg_ii) from (.cons (okcommon) rfl (.cons (okdiv) rfl (.consX rfl okInt_SetInt64_rb (.consX rfl okInt_SetInt64_i (.consX rfl okInt_Neg_ra (.consX rfl okInt_Neg_rb (.consX rfl okInt_Neg_ii GamOk.nil)))))))) namesA
noncomputable def kRat_SetFrac_a : Mo := mRat_SetFrac_a kNewInt_a kInt_Set_ii kInt_Set_ir kRat_norm_a NN
theorem okRat_SetFrac_a : XOk Pr 73 (smX RRat_SetFrac_a XRat_SetFrac_a kRat_SetFrac_a) XRat_SetFrac_a := gRat_SetFrac_a_sm kNewInt_a kInt_Set_ii kInt_Set_ir kRat_norm_a NN (show GamOk Pr (GRat_SetFrac_a kNewInt_a kInt_Set_ii kInt_Set_ir kRat_norm_a) from (.consX rfl okNewInt_a (.consX rfl okInt_Set_ii (.consX rfl okInt_Set_ir (.consX rfl okRat_norm_a GamOk.nil))))) namesA
noncomputable def kmul : Mo := mmul ktrim NN
theorem okmul : SmOk Pr 134 (smM Rmul kmul) := gmul_sm ktrim NN (show GamOk Pr (Gmul ktrim) from (.cons (oktrim) rfl GamOk.nil)) namesA
noncomputable def kInt_Mul_rr : Mo := mInt_Mul_rr kmul kInt_give_i kInt_give_ra kInt_give_rb NN
theorem okInt_Mul_rr : XOk Pr 75 (smX RInt_Mul_rr XInt_Mul_rr kInt_Mul_rr) XInt_Mul_rr := gInt_Mul_rr_sm kmul kInt_give_i kInt_give_ra kInt_give_rb NN (show GamOk Pr (GInt_Mul_rr kmul kInt_give_i kInt_give_ra kInt_give_rb) from (.cons (okmul) rfl (.consX rfl okInt_give_i (.consX rfl okInt_give_ra (.consX rfl okInt_give_rb GamOk.nil))))) namesA
noncomputable def kInt_Mul_bb : Mo := mInt_Mul_bb kmul kInt_give_i kInt_give_ra kInt_give_rb NN
theorem okInt_Mul_bb : XOk Pr 75 (smX RInt_Mul_bb XInt_Mul_bb kInt_Mul_bb) XInt_Mul_bb := gInt_Mul_bb_sm kmul kInt_give_i kInt_give_ra kInt_give_rb NN (show GamOk Pr (GInt_Mul_bb kmul kInt_give_i kInt_give_ra kInt_give_rb) from (.cons (okmul) rfl (.consX rfl okInt_give_i (.consX rfl okInt_give_ra (.consX rfl okInt_give_rb GamOk.nil))))) namesA
noncomputable def kInt_Mul_ab : Mo := mInt_Mul_ab kmul kInt_give_i kInt_give_ra kInt_give_rb NN
theorem okInt_Mul_ab : XOk Pr 75 (smX RInt_Mul_ab XInt_Mul_ab kInt_Mul_ab) XInt_Mul_ab := gInt_Mul_ab_sm kmul kInt_give_i kInt_give_ra kInt_give_rb NN (show GamOk Pr (GInt_Mul_ab kmul kInt_give_i kInt_give_ra kInt_give_rb) from (.cons (okmul) rfl (.consX rfl okInt_give_i (.consX rfl okInt_give_ra (.consX rfl okInt_give_rb GamOk.nil))))) namesA
noncomputable def kInt_Mul_iii : Mo := mInt_Mul_iii kmul kInt_give_i kInt_give_ra kInt_give_rb NN
theorem okInt_Mul_iii : XOk Pr 75 (smX RInt_Mul_iii XInt_Mul_iii kInt_Mul_iii) XInt_Mul_iii := gInt_Mul_iii_sm kmul kInt_give_i kInt_give_ra kInt_give_rb NN (show GamOk Pr (GInt_Mul_iii kmul kInt_give_i kInt_give_ra kInt_give_rb) from (.cons (okmul) rfl (.consX rfl okInt_give_i (.consX rfl okInt_give_ra (.consX rfl okInt_give_rb GamOk.nil))))) namesA
noncomputable def kInt_Mul_ri : Mo := mInt_Mul_ri kmul kInt_give_i kInt_give_ra kInt_give_rb NN
theorem okInt_Mul_ri : XOk Pr 75 (smX RInt_Mul_ri XInt_Mul_ri kInt_Mul_ri) XInt_Mul_ri := gInt_Mul_ri_sm kmul kInt_give_i kInt_give_ra kInt_give_rb NN (show GamOk Pr (GInt_Mul_ri kmul kInt_give_i kInt_give_ra kInt_give_rb) from (.cons (okmul) rfl (.consX rfl okInt_give_i (.consX rfl okInt_give_ra (.consX rfl okInt_give_rb GamOk.nil))))) namesA
noncomputable def kInt_Mul_ir : Mo := mInt_Mul_ir kmul kInt_give_i kInt_give_ra kInt_give_rb NN
theorem okInt_Mul_ir : XOk Pr 75 (smX RInt_Mul_ir XInt_Mul_ir kInt_Mul_ir) XInt_Mul_ir := gInt_Mul_ir_sm kmul kInt_give_i kInt_give_ra kInt_give_rb NN (show GamOk Pr (GInt_Mul_ir kmul kInt_give_i kInt_give_ra kInt_give_rb) from (.cons (okmul) rfl (.consX rfl okInt_give_i (.consX rfl okInt_give_ra (.consX rfl okInt_give_rb GamOk.nil))))) namesA
noncomputable def kInt_SetBytes_a : Mo := mInt_SetBytes_a kleft kwords kadd kInt_give_i kInt_give_ra kInt_give_rb NN
theorem okInt_SetBytes_a : XOk Pr 136 (smX RInt_SetBytes_a XInt_SetBytes_a kInt_SetBytes_a) XInt_SetBytes_a := gInt_SetBytes_a_sm kleft kwords kadd kInt_give_i kInt_give_ra kInt_give_rb NN (show GamOk Pr (GInt_SetBytes_a kleft kwords kadd kInt_give_i kInt_give_ra kInt_give_rb) from (.cons (okleft) rfl (.cons (okwords) rfl (.cons (okadd) rfl (.consX rfl okInt_give_i (.consX rfl okInt_give_ra (.consX rfl okInt_give_rb GamOk.nil))))))) namesA
noncomputable def kexact_Whole_a : Mo := mexact_Whole_a kInt_SetBytes_a NN
theorem okexact_Whole_a : XOk Pr 78 (smX Rexact_Whole_a Xexact_Whole_a kexact_Whole_a) Xexact_Whole_a := gexact_Whole_a_sm kInt_SetBytes_a NN (show GamOk Pr (Gexact_Whole_a kInt_SetBytes_a) from (.consX rfl okInt_SetBytes_a GamOk.nil)) namesA
noncomputable def ksum : Mo := msum kadd kcmp ksub NN
theorem oksum : SmOk Pr 135 (smM Rsum ksum) := gsum_sm kadd kcmp ksub NN (show GamOk Pr (Gsum kadd kcmp ksub) from (.cons (okadd) rfl (.cons (okcmp) rfl (.cons (oksub) rfl GamOk.nil)))) namesA
noncomputable def kInt_Add_iii : Mo := mInt_Add_iii ksum kInt_give_i kInt_give_ra kInt_give_rb NN
theorem okInt_Add_iii : XOk Pr 77 (smX RInt_Add_iii XInt_Add_iii kInt_Add_iii) XInt_Add_iii := gInt_Add_iii_sm ksum kInt_give_i kInt_give_ra kInt_give_rb NN (show GamOk Pr (GInt_Add_iii ksum kInt_give_i kInt_give_ra kInt_give_rb) from (.cons (oksum) rfl (.consX rfl okInt_give_i (.consX rfl okInt_give_ra (.consX rfl okInt_give_rb GamOk.nil))))) namesA
noncomputable def kstiff_one : Mo := mstiff_one  NN
theorem okstiff_one : SmOk Pr 47 (smM Rstiff_one kstiff_one) := gstiff_one_sm  NN (show GamOk Pr (Gstiff_one ) from GamOk.nil) namesA
noncomputable def kround_none : Mo := mround_none kmath_Copysign NN
theorem okround_none : SmOk Pr 161 (smM Rround_none kround_none) := ground_none_sm kmath_Copysign NN (show GamOk Pr (Ground_none kmath_Copysign) from (.cons (okmath_Copysign) rfl GamOk.nil)) namesA
noncomputable def kround_Add : Mo := mround_Add kround_way kround_finite kmath_Signbit kround_none kmath_IsInf kround_settle kmath_Abs kround_sign NN
theorem okround_Add : SmOk Pr 95 (smM Rround_Add kround_Add) := ground_Add_sm kround_way kround_finite kmath_Signbit kround_none kmath_IsInf kround_settle kmath_Abs kround_sign NN (show GamOk Pr (Ground_Add kround_way kround_finite kmath_Signbit kround_none kmath_IsInf kround_settle kmath_Abs kround_sign) from (.cons (okround_way) rfl (.cons (okround_finite) rfl (.cons (okmath_Signbit) rfl (.cons (okround_none) rfl (.cons (okmath_IsInf) rfl (.cons (okround_settle) rfl (.cons (okmath_Abs) rfl (.cons (okround_sign) rfl GamOk.nil))))))))) namesA
noncomputable def kspan_Add : Mo := mspan_Add kspan_right kround_Add NN
theorem okspan_Add : SmOk Pr 48 (smM Rspan_Add kspan_Add) := gspan_Add_sm kspan_right kround_Add NN (show GamOk Pr (Gspan_Add kspan_right kround_Add) from (.cons (okspan_right) rfl (.cons (okround_Add) rfl GamOk.nil))) namesA
noncomputable def kkit_SameFloat : Mo := mkit_SameFloat  NN
theorem okkit_SameFloat : SmOk Pr 22 (smM Rkit_SameFloat kkit_SameFloat) := gkit_SameFloat_sm  NN (show GamOk Pr (Gkit_SameFloat ) from (.cons ext66 rfl GamOk.nil)) namesA
noncomputable def kkit_SameReals : Mo := mkit_SameReals kkit_SameFloat NN
theorem okkit_SameReals : SmOk Pr 11 (smM Rkit_SameReals kkit_SameReals) := gkit_SameReals_sm kkit_SameFloat NN (show GamOk Pr (Gkit_SameReals kkit_SameFloat) from (.cons (okkit_SameFloat) rfl GamOk.nil)) namesA
noncomputable def kkit_SameLimbs : Mo := mkit_SameLimbs  NN
theorem okkit_SameLimbs : SmOk Pr 96 (smM Rkit_SameLimbs kkit_SameLimbs) := gkit_SameLimbs_sm  NN (show GamOk Pr (Gkit_SameLimbs ) from GamOk.nil) namesA
noncomputable def kkit_SameDyad : Mo := mkit_SameDyad kkit_SameLimbs NN
theorem okkit_SameDyad : SmOk Pr 49 (smM Rkit_SameDyad kkit_SameDyad) := gkit_SameDyad_sm kkit_SameLimbs NN (show GamOk Pr (Gkit_SameDyad kkit_SameLimbs) from (.cons (okkit_SameLimbs) rfl GamOk.nil)) namesA
end Go.Proofs.Tryz
end
section
namespace Go.Proofs.Tryz
open Go Go.Am
set_option maxRecDepth 1000000
noncomputable def GZ0 : Gam := [(23, smX Rbars_Springs_a Xbars_Springs_a kbars_Springs_a), (67, smM Rbars_Check kbars_Check), (46, smM Rspan_Mul kspan_Mul), (48, smM Rspan_Add kspan_Add), (47, smM Rstiff_one kstiff_one), (27, smM Rdyad_Right kdyad_Right), (128, smM Rdyad_Sign kdyad_Sign), (70, smM Rspan_Right kspan_Right), (187, smM Rmath_Frexp kmath_Frexp), (186, smM Rbits_Kind kbits_Kind), (203, smM Rmath_IsNaN kmath_IsNaN), (162, smM Rmath_Abs kmath_Abs), (126, smM Rmath_Inf kmath_Inf), (38, smX Rexact_Limbs_a Xexact_Limbs_a kexact_Limbs_a), (38, smX Rexact_Limbs_r Xexact_Limbs_r kexact_Limbs_r), (82, smX Rdyad_whole_a Xdyad_whole_a kdyad_whole_a), (140, smX Rdyad_limbs_a Xdyad_limbs_a kdyad_limbs_a), (73, smX RRat_SetFrac_a XRat_SetFrac_a kRat_SetFrac_a), (37, smX RRat_Sign_r XRat_Sign_r kRat_Sign_r), (40, smX RRat_Denom_r XRat_Denom_r kRat_Denom_r), (41, smX RInt_BitLen_i XInt_BitLen_i kInt_BitLen_i), (139, smX RInt_TrailingZeroBits_a XInt_TrailingZeroBits_a kInt_TrailingZeroBits_a), (75, smX RInt_Mul_rr XInt_Mul_rr kInt_Mul_rr), (75, smX RInt_Mul_bb XInt_Mul_bb kInt_Mul_bb), (75, smX RInt_Mul_ab XInt_Mul_ab kInt_Mul_ab), (75, smX RInt_Mul_iii XInt_Mul_iii kInt_Mul_iii), (75, smX RInt_Mul_ri XInt_Mul_ri kInt_Mul_ri), (75, smX RInt_Mul_ir XInt_Mul_ir kInt_Mul_ir), (77, smX RInt_Add_iii XInt_Add_iii kInt_Add_iii), (87, smX RInt_Set_ii XInt_Set_ii kInt_Set_ii), (74, smX RNewInt_a XNewInt_a kNewInt_a), (76, smX RRat_den_b XRat_den_b kRat_den_b), (133, smX RInt_give_i XInt_give_i kInt_give_i), (132, smX RInt_SetInt64_i XInt_SetInt64_i kInt_SetInt64_i), (79, smX RInt_Neg_ii XInt_Neg_ii kInt_Neg_ii), (85, smX RInt_Rsh_ii XInt_Rsh_ii kInt_Rsh_ii), (85, smX RInt_Rsh_p XInt_Rsh_p kInt_Rsh_p), (84, smX RInt_Abs_ii XInt_Abs_ii kInt_Abs_ii), (84, smX RInt_Abs_ir XInt_Abs_ir kInt_Abs_ir), (194, smM Rwords kwords), (195, smM Rtrim ktrim), (137, smM Rtwin ktwin), (134, smM Rmul kmul), (191, smM Rcmp kcmp), (135, smM Rsum ksum), (193, smM Rdiv kdiv), (192, smM Rcommon kcommon), (88, smM Rlength klength), (228, smM Rplain kplain), (229, smM Rsmall ksmall), (138, smM Rleft kleft), (144, smM Rright kright), (143, smM Radd kadd), (145, smM Rsub ksub), (196, smM Rbit kbit), (9, smM Rlaw22_ones klaw22_ones), (11, smM Rkit_SameReals kkit_SameReals), (49, smM Rkit_SameDyad kkit_SameDyad), (42, smM Rref02_Int kref02_Int), (94, smM Rround_Mul kround_Mul), (95, smM Rround_Add kround_Add), (202, smM Rbits_Order kbits_Order), (78, smX Rexact_Whole_a Xexact_Whole_a kexact_Whole_a), (66, sBits), (155, sFma), (185, sFrom), (249, sSqrt)]
theorem GZ0ok : GamOk Pr GZ0 := (.consX rfl okbars_Springs_a (.cons okbars_Check rfl (.cons okspan_Mul rfl (.cons okspan_Add rfl (.cons okstiff_one rfl (.cons okdyad_Right rfl (.cons okdyad_Sign rfl (.cons okspan_Right rfl (.cons okmath_Frexp rfl (.cons okbits_Kind rfl (.cons okmath_IsNaN rfl (.cons okmath_Abs rfl (.cons okmath_Inf rfl (.consX rfl okexact_Limbs_a (.consX rfl okexact_Limbs_r (.consX rfl okdyad_whole_a (.consX rfl okdyad_limbs_a (.consX rfl okRat_SetFrac_a (.consX rfl okRat_Sign_r (.consX rfl okRat_Denom_r (.consX rfl okInt_BitLen_i (.consX rfl okInt_TrailingZeroBits_a (.consX rfl okInt_Mul_rr (.consX rfl okInt_Mul_bb (.consX rfl okInt_Mul_ab (.consX rfl okInt_Mul_iii (.consX rfl okInt_Mul_ri (.consX rfl okInt_Mul_ir (.consX rfl okInt_Add_iii (.consX rfl okInt_Set_ii (.consX rfl okNewInt_a (.consX rfl okRat_den_b (.consX rfl okInt_give_i (.consX rfl okInt_SetInt64_i (.consX rfl okInt_Neg_ii (.consX rfl okInt_Rsh_ii (.consX rfl okInt_Rsh_p (.consX rfl okInt_Abs_ii (.consX rfl okInt_Abs_ir (.cons okwords rfl (.cons oktrim rfl (.cons oktwin rfl (.cons okmul rfl (.cons okcmp rfl (.cons oksum rfl (.cons okdiv rfl (.cons okcommon rfl (.cons oklength rfl (.cons okplain rfl (.cons oksmall rfl (.cons okleft rfl (.cons okright rfl (.cons okadd rfl (.cons oksub rfl (.cons okbit rfl (.cons oklaw22_ones rfl (.cons okkit_SameReals rfl (.cons okkit_SameDyad rfl (.cons okref02_Int rfl (.cons okround_Mul rfl (.cons okround_Add rfl (.cons okbits_Order rfl (.consX rfl okexact_Whole_a (.cons ext66 rfl (.cons ext155 rfl (.cons ext185 rfl (.cons ext249 rfl GamOk.nil)))))))))))))))))))))))))))))))))))))))))))))))))))))))))))))))))))
end Go.Proofs.Tryz
end
section
namespace Go.Proofs.Tryz
open Go Go.Am
set_option maxRecDepth 1000000
noncomputable def GZ1 : Gam := (28, smM [RS.one .b] (runZA Pr GZ0 3000 20 28)) :: (69, smM [RS.agg [LK.l 3, LK.i .i64], RS.one (LK.i .i64)] (runZA Pr GZ0 3000 20 69)) :: GZ0
theorem GZ1ok : GamOk Pr GZ1 := .cons (smZA GZ0ok namesA 3000 20 28 _) rfl (.cons (smZA GZ0ok namesA 3000 20 69 _) rfl GZ0ok)
def zp33 : AV := .agg [lit 4 [[.str ⟨#[97]⟩, .int .i32 0, .int .i32 0, .int .u8 3], [.str ⟨#[98]⟩, .int .i32 3, .int .i32 4, .int .u8 3]], lit 9 [[.str ⟨#[109]⟩, .int .u8 1, .int .i64 0, .int .i64 1, .bool false, .bool false, .flt .f64 (some 4611686018427387904), .flt .f64 (some 4633992910331707392), .flt .f64 (some 0)]]]
def zp00 : AV := .agg [lit 4 [[.str ⟨#[97]⟩, .int .i32 0, .int .i32 0, .int .u8 0], [.str ⟨#[98]⟩, .int .i32 3, .int .i32 4, .int .u8 0]], lit 9 [[.str ⟨#[109]⟩, .int .u8 1, .int .i64 0, .int .i64 1, .bool false, .bool false, .flt .f64 (some 4611686018427387904), .flt .f64 (some 4633992910331707392), .flt .f64 (some 0)]]]
def zp30 : AV := .agg [lit 4 [[.str ⟨#[97]⟩, .int .i32 0, .int .i32 0, .int .u8 3], [.str ⟨#[98]⟩, .int .i32 3, .int .i32 4, .int .u8 0]], lit 9 [[.str ⟨#[109]⟩, .int .u8 1, .int .i64 0, .int .i64 1, .bool false, .bool false, .flt .f64 (some 4611686018427387904), .flt .f64 (some 4633992910331707392), .flt .f64 (some 0)]]]
def znA : AV := .tup [.agg [.int .i64 0, .int .i64 0, lit 1 []], .int .i64 0]
def znB : AV := .tup [.agg [.int .i64 4, .int .i64 4, lit 1 [[.flt .f64 (some 4621256167635550208)], [.flt .f64 (some 4622945017495814144)], [.flt .f64 (some 13844628204490326016)], [.flt .f64 (some 13846317054350589952)], [.flt .f64 (some 4622945017495814144)], [.flt .f64 (some 4625196817309499392)], [.flt .f64 (some 13846317054350589952)], [.flt .f64 (some 13848568854164275200)], [.flt .f64 (some 13844628204490326016)], [.flt .f64 (some 13846317054350589952)], [.flt .f64 (some 4621256167635550208)], [.flt .f64 (some 4622945017495814144)], [.flt .f64 (some 13846317054350589952)], [.flt .f64 (some 13848568854164275200)], [.flt .f64 (some 4622945017495814144)], [.flt .f64 (some 4625196817309499392)]]], .int .i64 0]
def znC : AV := .tup [.agg [.int .i64 2, .int .i64 2, lit 1 [[.flt .f64 (some 4621256167635550208)], [.flt .f64 (some 4622945017495814144)], [.flt .f64 (some 4622945017495814144)], [.flt .f64 (some 4625196817309499392)]]], .int .i64 0]
def zsC : AV := .tup [.agg [.int .i64 2, .int .i64 2, lit 2 [[.flt .f64 (some 4621256167635550208), .flt .f64 (some 4621256167635550208)], [.flt .f64 (some 4622945017495814144), .flt .f64 (some 4622945017495814144)], [.flt .f64 (some 4622945017495814144), .flt .f64 (some 4622945017495814144)], [.flt .f64 (some 4625196817309499392), .flt .f64 (some 4625196817309499392)]]], .int .i64 0]
def zd1 : AV := lit 3 [[.bool false, lit 1 [[.int .u64 1]], .int .i64 (0)]]
def zd2 : AV := lit 3 [[.bool false, lit 1 [[.int .u64 1]], .int .i64 (1)]]
def zdh : AV := lit 3 [[.bool false, lit 1 [[.int .u64 2]], .int .i64 (-1)]]
def zd0 : AV := lit 3 []
def zxC : AV := .tup [.agg [.int .i64 2, .int .i64 2, lit 3 [[.bool false, lit 1 [[.int .u64 9]], .int .i64 (0)], [.bool false, lit 1 [[.int .u64 3]], .int .i64 (2)], [.bool false, lit 1 [[.int .u64 3]], .int .i64 (2)], [.bool false, lit 1 [[.int .u64 1]], .int .i64 (4)]]], .int .i64 0]
def zx2 : AV := .tup [.agg [.int .i64 0, .int .i64 0, lit 3 []], .int .i64 2]
def zx4 : AV := .tup [.agg [.int .i64 0, .int .i64 0, lit 3 []], .int .i64 4]
end Go.Proofs.Tryz
end

/- Ways through the function of the law FnWide: each by what its callees answer; taken out of the kit's printed walk by a program of this session. -/
import Derived.Test.YtppjbaogabicdaaOFnWidex2
namespace Go.Proofs.Ytppjbaogabicdaa.PFnWide
open Go.RowKit Go.Proofs.YtppjbaogabicdaaW.PrintWords Go.Proofs.YtppjbaogabicdaaW.PrintLast Go.Proofs.YtppjbaogabicdaaW.PrintMore
/-- A row of marks: `n` that are set,then `m` that are not. -/
abbrev laws_FnWide.bs (n m : Nat) : Array Bool := (List.replicate n true ++ List.replicate m false).toArray
attribute [local go_sem] max2_int min2_int max_two min_two max_three min_three max_four min_four   -- for this text's walks alone
set_option linter.unusedVariables false
set_option linter.unusedSimpArgs false

theorem eqA45 (d : Nat) (w : World) (x0 y0 : Int) (x1 y1 : Int) :
    (Op.equalIn (d + 2) 45 (.agg #[.int .i64 x0,.int .i64 x1]) (.agg #[.int .i64 y0,.int .i64 y1])).run Try.prog w = .ok (x0 == y0 && (x1 == y1)) w := by
  refine eqA_of Try.underlying45 (by kernel_rfl) ?_
  refine eqf_cons (by rfl) (by go_simp; rfl) (by go_simp; rfl) (by go_simp) ?_
  exact eqf_last (by rfl) (by go_simp; rfl) (by go_simp; rfl) (by go_simp)
attribute [local go_sem high] eqA45
def laws_FnWide.T10 : Bool × List (List Nat × List Nat) := (true,[([],[]),([],[]),([],[]),([1,2],[1,2]),([3],[3]),([0,4],[0,4]),([5,3],[5]),([6],[6]),([7,6],[6,7]),([6],[6]),([6],[6]),([9,10,6],[6,9,10]),([8,11,6],[6,8,11]),([6,12],[6,12]),([13,6],[13]),([14],[14]),([15,14],[14,15]),([16,14,14],[14,16]),([17],[17]),([17],[17]),([18,19,17,17],[17,18,19]),([20,17],[17,20]),([17,21,14],[14,17,21]),([22,20,14],[14,22]),([23],[23]),([23],[23]),([24,25,23,23],[23,24,25]),([26,23],[23,26]),([23,27,14],[14,23,27]),([14,28],[14,28]),([29,26],[29]),([30],[30]),([30],[30]),([30],[30]),([32,33,30,30],[30,32,33]),([31,34,30],[30,31,34]),([30,35],[30,35]),([36,34],[36]),([37],[37]),([37],[37]),([38,39,37,37],[37,38,39]),([37],[37]),([40,41,37],[37,40,41]),([37,42],[37,42]),([43,40],[43]),([44],[44]),([44],[44]),([45,46,44,44],[44,45,46]),([47,44],[44,47]),([44,48],[44,48]),([49,47],[49]),([50],[50]),([50],[50]),([51,52,50,50],[50,51,52]),([50],[50]),([50],[50]),([54,55,53,50],[50,54,55]),([53,56,50],[50,53,56]),([50,57],[50,57]),([58,56],[58]),([59],[59]),([59],[59]),([60,61,59,59],[59,60,61]),([59],[59]),([59],[59]),([63,64,62,59],[59,63,64]),([62,65,59],[59,62,65]),([59,66],[59,66]),([67,65],[67]),([68],[68]),([69,68,68],[68,69]),([68,70],[68,70]),([71,70],[71]),([72],[72]),([73,72,72],[72,73]),([72],[72]),([75,74,72],[72,75]),([74,76,72],[72,74,76]),([72,77],[72,77]),([78,76,0,1,2,3,4,5,6,7,8,9,10,11,12,13,14,15,16,17,18,19,20,21,22,23,24,25,26,27,28,29,30,31,32,33,34,35,36,37,38,39,40,41,42,43,44,45,46,47,48,49,50,51,52,53,54,55,56,57,58,59,60,61,62,63,64,65,66,67,68,69,70,71,72,73,74,75,76,77,78],[78])])
def laws_FnWide.B10 : List Nat := [0,0,0,6,14,31,63,127,255,127,127,1663,4095,8191,16383,32767,65535,131071,262143,262143,1048575,2097151,4194303,8388607,16777215,16777215,67108863,134217727,268435455,536870911,1073741823,2147483647,2147483647,2147483647,15032385535,34359738367,68719476735,137438953471,274877906943,274877906943,1099511627775,274877906943,4398046511103,8796093022207,17592186044415,35184372088831,35184372088831,140737488355327,281474976710655,562949953421311,1125899906842623,2251799813685247,2251799813685247,9007199254740991,2251799813685247,2251799813685247,72057594037927935,144115188075855871,288230376151711743,576460752303423487,1152921504606846975,1152921504606846975,4611686018427387903,1152921504606846975,1152921504606846975,36893488147419103231,73786976294838206463,147573952589676412927,295147905179352825855,590295810358705651711,1180591620717411303423,2361183241434822606847,4722366482869645213695,9444732965739290427391,18889465931478580854783,9444732965739290427391,75557863725914323419135,151115727451828646838271,302231454903657293676543,604462909807314587353087]
theorem laws_FnWide.tab10 : rtab .any (opsOf Try.f5 10) = laws_FnWide.T10 := by kernel_rfl
theorem laws_FnWide.bits10 : waitsOk laws_FnWide.T10.2 laws_FnWide.B10 = true := by kernel_rfl
set_option maxHeartbeats 8000000 in
set_option maxRecDepth 100000 in
theorem laws_FnWide.way0 (k : Nat) (A0 : Option Addr) (c0 : Nat) (l0 : List Int) (w : World) (hr0 : Kd.C (Kd.int .u8) w A0 l0.length l0) (hc0 : l0.length ≤ c0)
    (A20 : laws_big.f l0 = some true) :
    Calls Try.prog 5 #[.slice A0 l0.length c0] w fun e w' => e = .returned (.bool true) ∧ Below w.heap.size w w' := by
  have hu39 := Try.underlying39
  have hu45 := Try.underlying45
  have HR0 := Aside0.mk hr0
  have HC0 := Aside0.mk hc0
  clear hr0 hc0
  have HB := Aside0.mk (Below.refl w.heap.size w)
  have A2 := Aside0.mk A20
  clear A20
  go_enter Try.func5,Try.ntmps5
  go_wp2_with (first | ((with_reducible refine gate_callee (f := 9) rfl ?_); refine goesL_ (some 12) rfl rfl Try.func9 (by kernel_rfl) rfl #[.slice A0 l0.length c0] rfl (by (try simp only [List.map_toArray,List.map_cons,List.map_nil]); first | done | rfl | (simp only [List.length_drop,List.length_take]; rfl)) ?_; (with_reducible refine (laws_big.calls _ _ l0 true _ ?side1 ?side2 A2.out).mono ?_); (case side1 => repeat (first | exact HR0.out | (with_reducible refine Kd.C_alloc ?_ _) | (with_reducible refine Kd.C_drewN ?_ _) | (with_reducible refine Kd.C_drew ?_))); (case side2 => exact HC0.out); rintro e w' ⟨rfl,⟨nd,rfl⟩⟩; refine ⟨_,rfl,?_⟩))
  go_ret
  exact ⟨by first | rfl | (simp [errW_none,errW_some] <;> rfl) | (simp [*,errW_none,errW_some] <;> rfl),by repeat (first | (with_reducible first | exact HB.out | apply below_alloc | apply pw_below_drewN | apply below_drew1) | exact HB.out)⟩

end Go.Proofs.Ytppjbaogabicdaa.PFnWide

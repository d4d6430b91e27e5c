/- Closed facts on the types and functions of the translation. No condition. -/
import Derived.Test.YtnhpfhhpochgfaaCmp
import Derived.Test.YtnhpfhhpochgfaaProg
namespace Go.Sy.F
set_option maxRecDepth 100000
theorem sz0 : (Proofs.Try.prog.info? 0).map (·.size) = some 1 := by kernel_rfl
theorem zero0 : zeroOf Proofs.Try.prog 0 = some (.tuple #[]) := by kernel_rfl
theorem inf0 : Inf Proofs.Try.prog 0 (.tuple #[]) 1 0 := by unfold Inf; kernel_rfl
theorem one1 : isOne Proofs.Try.prog 1 = true := by kernel_rfl
theorem sz1 : (Proofs.Try.prog.info? 1).map (·.size) = some 1 := by kernel_rfl
theorem zero1 : zeroOf Proofs.Try.prog 1 = some (.nilFunc) := by kernel_rfl
theorem inf1 : Inf Proofs.Try.prog 1 (.nilFunc) 1 8 := by unfold Inf; kernel_rfl
theorem one2 : isOne Proofs.Try.prog 2 = true := by kernel_rfl
theorem und2 : (Proofs.Try.prog.underlying 2).isSome = true := by kernel_rfl
theorem sz2 : (Proofs.Try.prog.info? 2).map (·.size) = some 1 := by kernel_rfl
theorem zero2 : zeroOf Proofs.Try.prog 2 = some (.int .i64 0) := by kernel_rfl
theorem inf2 : Inf Proofs.Try.prog 2 (.int .i64 0) 1 8 := by unfold Inf; kernel_rfl
theorem one3 : isOne Proofs.Try.prog 3 = true := by kernel_rfl
theorem und3 : (Proofs.Try.prog.underlying 3).isSome = true := by kernel_rfl
theorem sz3 : (Proofs.Try.prog.info? 3).map (·.size) = some 1 := by kernel_rfl
theorem zero3 : zeroOf Proofs.Try.prog 3 = some (.int .i64 0) := by kernel_rfl
theorem inf3 : Inf Proofs.Try.prog 3 (.int .i64 0) 1 8 := by unfold Inf; kernel_rfl
theorem one4 : isOne Proofs.Try.prog 4 = true := by kernel_rfl
theorem und4 : (Proofs.Try.prog.underlying 4).isSome = true := by kernel_rfl
theorem sz4 : (Proofs.Try.prog.info? 4).map (·.size) = some 1 := by kernel_rfl
theorem zero4 : zeroOf Proofs.Try.prog 4 = some (.bool false) := by kernel_rfl
theorem inf4 : Inf Proofs.Try.prog 4 (.bool false) 1 1 := by unfold Inf; kernel_rfl
theorem one5 : isOne Proofs.Try.prog 5 = true := by kernel_rfl
theorem und5 : (Proofs.Try.prog.underlying 5).isSome = true := by kernel_rfl
theorem sz5 : (Proofs.Try.prog.info? 5).map (·.size) = some 1 := by kernel_rfl
theorem zero5 : zeroOf Proofs.Try.prog 5 = some (.int .u8 0) := by kernel_rfl
theorem inf5 : Inf Proofs.Try.prog 5 (.int .u8 0) 1 1 := by unfold Inf; kernel_rfl
theorem one6 : isOne Proofs.Try.prog 6 = true := by kernel_rfl
theorem und6 : (Proofs.Try.prog.underlying 6).isSome = true := by kernel_rfl
theorem sz6 : (Proofs.Try.prog.info? 6).map (·.size) = some 1 := by kernel_rfl
theorem zero6 : zeroOf Proofs.Try.prog 6 = some (.int .u8 0) := by kernel_rfl
theorem inf6 : Inf Proofs.Try.prog 6 (.int .u8 0) 1 1 := by unfold Inf; kernel_rfl
theorem agg7 : aggSize Proofs.Try.prog 7 = some 4 := by kernel_rfl
theorem und7 : (Proofs.Try.prog.underlying 7).isSome = true := by kernel_rfl
theorem sz7 : (Proofs.Try.prog.info? 7).map (·.size) = some 4 := by kernel_rfl
theorem zero7 : zeroOf Proofs.Try.prog 7 = some (.agg #[.int .i64 0, .int .i64 0, .bool false, .int .u8 0]) := by kernel_rfl
theorem inf7 : Inf Proofs.Try.prog 7 (.agg #[.int .i64 0, .int .i64 0, .bool false, .int .u8 0]) 4 24 := by unfold Inf; kernel_rfl
theorem fo7_0 : fieldOff Proofs.Try.prog 7 0 = some 0 := by kernel_rfl
theorem fv7_0 : fieldOne Proofs.Try.prog 7 0 = some 0 := by kernel_rfl
theorem fo7_1 : fieldOff Proofs.Try.prog 7 1 = some 1 := by kernel_rfl
theorem fv7_1 : fieldOne Proofs.Try.prog 7 1 = some 1 := by kernel_rfl
theorem fo7_2 : fieldOff Proofs.Try.prog 7 2 = some 2 := by kernel_rfl
theorem fv7_2 : fieldOne Proofs.Try.prog 7 2 = some 2 := by kernel_rfl
theorem fo7_3 : fieldOff Proofs.Try.prog 7 3 = some 3 := by kernel_rfl
theorem fv7_3 : fieldOne Proofs.Try.prog 7 3 = some 3 := by kernel_rfl
theorem agg8 : aggSize Proofs.Try.prog 8 = some 4 := by kernel_rfl
theorem und8 : (Proofs.Try.prog.underlying 8).isSome = true := by kernel_rfl
theorem sz8 : (Proofs.Try.prog.info? 8).map (·.size) = some 4 := by kernel_rfl
theorem zero8 : zeroOf Proofs.Try.prog 8 = some (.agg #[.int .i64 0, .int .i64 0, .bool false, .int .u8 0]) := by kernel_rfl
theorem inf8 : Inf Proofs.Try.prog 8 (.agg #[.int .i64 0, .int .i64 0, .bool false, .int .u8 0]) 4 24 := by unfold Inf; kernel_rfl
theorem fo8_0 : fieldOff Proofs.Try.prog 8 0 = some 0 := by kernel_rfl
theorem fv8_0 : fieldOne Proofs.Try.prog 8 0 = some 0 := by kernel_rfl
theorem fo8_1 : fieldOff Proofs.Try.prog 8 1 = some 1 := by kernel_rfl
theorem fv8_1 : fieldOne Proofs.Try.prog 8 1 = some 1 := by kernel_rfl
theorem fo8_2 : fieldOff Proofs.Try.prog 8 2 = some 2 := by kernel_rfl
theorem fv8_2 : fieldOne Proofs.Try.prog 8 2 = some 2 := by kernel_rfl
theorem fo8_3 : fieldOff Proofs.Try.prog 8 3 = some 3 := by kernel_rfl
theorem fv8_3 : fieldOne Proofs.Try.prog 8 3 = some 3 := by kernel_rfl
theorem one9 : isOne Proofs.Try.prog 9 = true := by kernel_rfl
theorem und9 : (Proofs.Try.prog.underlying 9).isSome = true := by kernel_rfl
theorem sz9 : (Proofs.Try.prog.info? 9).map (·.size) = some 1 := by kernel_rfl
theorem zero9 : zeroOf Proofs.Try.prog 9 = some (.string ⟨#[]⟩) := by kernel_rfl
theorem inf9 : Inf Proofs.Try.prog 9 (.string ⟨#[]⟩) 1 16 := by unfold Inf; kernel_rfl
theorem one10 : isOne Proofs.Try.prog 10 = true := by kernel_rfl
theorem und10 : (Proofs.Try.prog.underlying 10).isSome = true := by kernel_rfl
theorem sz10 : (Proofs.Try.prog.info? 10).map (·.size) = some 1 := by kernel_rfl
theorem zero10 : zeroOf Proofs.Try.prog 10 = some (.string ⟨#[]⟩) := by kernel_rfl
theorem inf10 : Inf Proofs.Try.prog 10 (.string ⟨#[]⟩) 1 16 := by unfold Inf; kernel_rfl
theorem one11 : isOne Proofs.Try.prog 11 = true := by kernel_rfl
theorem und11 : (Proofs.Try.prog.underlying 11).isSome = true := by kernel_rfl
theorem sz11 : (Proofs.Try.prog.info? 11).map (·.size) = some 1 := by kernel_rfl
theorem zero11 : zeroOf Proofs.Try.prog 11 = some (.string ⟨#[]⟩) := by kernel_rfl
theorem inf11 : Inf Proofs.Try.prog 11 (.string ⟨#[]⟩) 1 16 := by unfold Inf; kernel_rfl
theorem one12 : isOne Proofs.Try.prog 12 = true := by kernel_rfl
theorem und12 : (Proofs.Try.prog.underlying 12).isSome = true := by kernel_rfl
theorem sz12 : (Proofs.Try.prog.info? 12).map (·.size) = some 1 := by kernel_rfl
theorem zero12 : zeroOf Proofs.Try.prog 12 = some (.int .u64 0) := by kernel_rfl
theorem inf12 : Inf Proofs.Try.prog 12 (.int .u64 0) 1 8 := by unfold Inf; kernel_rfl
theorem agg13 : aggSize Proofs.Try.prog 13 = some 2 := by kernel_rfl
theorem und13 : (Proofs.Try.prog.underlying 13).isSome = true := by kernel_rfl
theorem sz13 : (Proofs.Try.prog.info? 13).map (·.size) = some 2 := by kernel_rfl
theorem zero13 : zeroOf Proofs.Try.prog 13 = some (.agg #[.string ⟨#[]⟩, .int .u64 0]) := by kernel_rfl
theorem inf13 : Inf Proofs.Try.prog 13 (.agg #[.string ⟨#[]⟩, .int .u64 0]) 2 24 := by unfold Inf; kernel_rfl
theorem fo13_0 : fieldOff Proofs.Try.prog 13 0 = some 0 := by kernel_rfl
theorem fv13_0 : fieldOne Proofs.Try.prog 13 0 = some 0 := by kernel_rfl
theorem fo13_1 : fieldOff Proofs.Try.prog 13 1 = some 1 := by kernel_rfl
theorem fv13_1 : fieldOne Proofs.Try.prog 13 1 = some 1 := by kernel_rfl
theorem agg14 : aggSize Proofs.Try.prog 14 = some 2 := by kernel_rfl
theorem und14 : (Proofs.Try.prog.underlying 14).isSome = true := by kernel_rfl
theorem sz14 : (Proofs.Try.prog.info? 14).map (·.size) = some 2 := by kernel_rfl
theorem zero14 : zeroOf Proofs.Try.prog 14 = some (.agg #[.string ⟨#[]⟩, .int .u64 0]) := by kernel_rfl
theorem inf14 : Inf Proofs.Try.prog 14 (.agg #[.string ⟨#[]⟩, .int .u64 0]) 2 24 := by unfold Inf; kernel_rfl
theorem fo14_0 : fieldOff Proofs.Try.prog 14 0 = some 0 := by kernel_rfl
theorem fv14_0 : fieldOne Proofs.Try.prog 14 0 = some 0 := by kernel_rfl
theorem fo14_1 : fieldOff Proofs.Try.prog 14 1 = some 1 := by kernel_rfl
theorem fv14_1 : fieldOne Proofs.Try.prog 14 1 = some 1 := by kernel_rfl
theorem one15 : isOne Proofs.Try.prog 15 = true := by kernel_rfl
theorem ptr15 : isPtr Proofs.Try.prog 15 = true := by kernel_rfl
theorem sz15 : (Proofs.Try.prog.info? 15).map (·.size) = some 1 := by kernel_rfl
theorem zero15 : zeroOf Proofs.Try.prog 15 = some (.pointer none) := by kernel_rfl
theorem inf15 : Inf Proofs.Try.prog 15 (.pointer none) 1 8 := by unfold Inf; kernel_rfl
theorem one16 : isOne Proofs.Try.prog 16 = true := by kernel_rfl
theorem ptr16 : isPtr Proofs.Try.prog 16 = true := by kernel_rfl
theorem sz16 : (Proofs.Try.prog.info? 16).map (·.size) = some 1 := by kernel_rfl
theorem zero16 : zeroOf Proofs.Try.prog 16 = some (.pointer none) := by kernel_rfl
theorem inf16 : Inf Proofs.Try.prog 16 (.pointer none) 1 8 := by unfold Inf; kernel_rfl
theorem one17 : isOne Proofs.Try.prog 17 = true := by kernel_rfl
theorem ptr17 : isPtr Proofs.Try.prog 17 = true := by kernel_rfl
theorem sz17 : (Proofs.Try.prog.info? 17).map (·.size) = some 1 := by kernel_rfl
theorem zero17 : zeroOf Proofs.Try.prog 17 = some (.pointer none) := by kernel_rfl
theorem inf17 : Inf Proofs.Try.prog 17 (.pointer none) 1 8 := by unfold Inf; kernel_rfl
theorem agg18 : aggSize Proofs.Try.prog 18 = some 1 := by kernel_rfl
theorem und18 : (Proofs.Try.prog.underlying 18).isSome = true := by kernel_rfl
theorem sz18 : (Proofs.Try.prog.info? 18).map (·.size) = some 1 := by kernel_rfl
theorem zero18 : zeroOf Proofs.Try.prog 18 = some (.agg #[.pointer none]) := by kernel_rfl
theorem inf18 : Inf Proofs.Try.prog 18 (.agg #[.pointer none]) 1 8 := by unfold Inf; kernel_rfl
theorem fo18_0 : fieldOff Proofs.Try.prog 18 0 = some 0 := by kernel_rfl
theorem fv18_0 : fieldOne Proofs.Try.prog 18 0 = some 0 := by kernel_rfl
theorem agg19 : aggSize Proofs.Try.prog 19 = some 1 := by kernel_rfl
theorem und19 : (Proofs.Try.prog.underlying 19).isSome = true := by kernel_rfl
theorem sz19 : (Proofs.Try.prog.info? 19).map (·.size) = some 1 := by kernel_rfl
theorem zero19 : zeroOf Proofs.Try.prog 19 = some (.agg #[.pointer none]) := by kernel_rfl
theorem inf19 : Inf Proofs.Try.prog 19 (.agg #[.pointer none]) 1 8 := by unfold Inf; kernel_rfl
theorem fo19_0 : fieldOff Proofs.Try.prog 19 0 = some 0 := by kernel_rfl
theorem fv19_0 : fieldOne Proofs.Try.prog 19 0 = some 0 := by kernel_rfl
theorem one20 : isOne Proofs.Try.prog 20 = true := by kernel_rfl
theorem sz20 : (Proofs.Try.prog.info? 20).map (·.size) = some 1 := by kernel_rfl
theorem zero20 : zeroOf Proofs.Try.prog 20 = some (.nilIface) := by kernel_rfl
theorem inf20 : Inf Proofs.Try.prog 20 (.nilIface) 1 16 := by unfold Inf; kernel_rfl
theorem one21 : isOne Proofs.Try.prog 21 = true := by kernel_rfl
theorem und21 : (Proofs.Try.prog.underlying 21).isSome = true := by kernel_rfl
theorem sz21 : (Proofs.Try.prog.info? 21).map (·.size) = some 1 := by kernel_rfl
theorem zero21 : zeroOf Proofs.Try.prog 21 = some (.int .i32 0) := by kernel_rfl
theorem inf21 : Inf Proofs.Try.prog 21 (.int .i32 0) 1 4 := by unfold Inf; kernel_rfl
theorem one22 : isOne Proofs.Try.prog 22 = true := by kernel_rfl
theorem sl22 : isSl Proofs.Try.prog 22 = true := by kernel_rfl
theorem sle22 : slElem Proofs.Try.prog 22 = some 1 := by kernel_rfl
theorem und22 : (Proofs.Try.prog.underlying 22).isSome = true := by kernel_rfl
theorem sz22 : (Proofs.Try.prog.info? 22).map (·.size) = some 1 := by kernel_rfl
theorem zero22 : zeroOf Proofs.Try.prog 22 = some (.slice none 0 0) := by kernel_rfl
theorem inf22 : Inf Proofs.Try.prog 22 (.slice none 0 0) 1 24 := by unfold Inf; kernel_rfl
theorem one23 : isOne Proofs.Try.prog 23 = true := by kernel_rfl
theorem ptr23 : isPtr Proofs.Try.prog 23 = true := by kernel_rfl
theorem sz23 : (Proofs.Try.prog.info? 23).map (·.size) = some 1 := by kernel_rfl
theorem zero23 : zeroOf Proofs.Try.prog 23 = some (.pointer none) := by kernel_rfl
theorem inf23 : Inf Proofs.Try.prog 23 (.pointer none) 1 8 := by unfold Inf; kernel_rfl
theorem one24 : isOne Proofs.Try.prog 24 = true := by kernel_rfl
theorem und24 : (Proofs.Try.prog.underlying 24).isSome = true := by kernel_rfl
theorem sz24 : (Proofs.Try.prog.info? 24).map (·.size) = some 1 := by kernel_rfl
theorem zero24 : zeroOf Proofs.Try.prog 24 = some (.int .i64 0) := by kernel_rfl
theorem inf24 : Inf Proofs.Try.prog 24 (.int .i64 0) 1 8 := by unfold Inf; kernel_rfl
theorem sz25 : (Proofs.Try.prog.info? 25).map (·.size) = some 1 := by kernel_rfl
theorem zero25 : zeroOf Proofs.Try.prog 25 = some (.tuple #[.pointer none, .int .i64 0]) := by kernel_rfl
theorem inf25 : Inf Proofs.Try.prog 25 (.tuple #[.pointer none, .int .i64 0]) 1 0 := by unfold Inf; kernel_rfl
theorem one26 : isOne Proofs.Try.prog 26 = true := by kernel_rfl
theorem sz26 : (Proofs.Try.prog.info? 26).map (·.size) = some 1 := by kernel_rfl
theorem zero26 : zeroOf Proofs.Try.prog 26 = some (.nilFunc) := by kernel_rfl
theorem inf26 : Inf Proofs.Try.prog 26 (.nilFunc) 1 8 := by unfold Inf; kernel_rfl
theorem one27 : isOne Proofs.Try.prog 27 = true := by kernel_rfl
theorem ptr27 : isPtr Proofs.Try.prog 27 = true := by kernel_rfl
theorem sz27 : (Proofs.Try.prog.info? 27).map (·.size) = some 1 := by kernel_rfl
theorem zero27 : zeroOf Proofs.Try.prog 27 = some (.pointer none) := by kernel_rfl
theorem inf27 : Inf Proofs.Try.prog 27 (.pointer none) 1 8 := by unfold Inf; kernel_rfl
theorem sz28 : (Proofs.Try.prog.info? 28).map (·.size) = some 1 := by kernel_rfl
theorem zero28 : zeroOf Proofs.Try.prog 28 = some (.tuple #[.pointer none, .int .i64 0]) := by kernel_rfl
theorem inf28 : Inf Proofs.Try.prog 28 (.tuple #[.pointer none, .int .i64 0]) 1 0 := by unfold Inf; kernel_rfl
theorem one29 : isOne Proofs.Try.prog 29 = true := by kernel_rfl
theorem sz29 : (Proofs.Try.prog.info? 29).map (·.size) = some 1 := by kernel_rfl
theorem zero29 : zeroOf Proofs.Try.prog 29 = some (.nilFunc) := by kernel_rfl
theorem inf29 : Inf Proofs.Try.prog 29 (.nilFunc) 1 8 := by unfold Inf; kernel_rfl
theorem one30 : isOne Proofs.Try.prog 30 = true := by kernel_rfl
theorem sz30 : (Proofs.Try.prog.info? 30).map (·.size) = some 1 := by kernel_rfl
theorem zero30 : zeroOf Proofs.Try.prog 30 = some (.nilFunc) := by kernel_rfl
theorem inf30 : Inf Proofs.Try.prog 30 (.nilFunc) 1 8 := by unfold Inf; kernel_rfl
theorem one31 : isOne Proofs.Try.prog 31 = true := by kernel_rfl
theorem sl31 : isSl Proofs.Try.prog 31 = true := by kernel_rfl
theorem sle31 : slElem Proofs.Try.prog 31 = some 2 := by kernel_rfl
theorem und31 : (Proofs.Try.prog.underlying 31).isSome = true := by kernel_rfl
theorem sz31 : (Proofs.Try.prog.info? 31).map (·.size) = some 1 := by kernel_rfl
theorem zero31 : zeroOf Proofs.Try.prog 31 = some (.slice none 0 0) := by kernel_rfl
theorem inf31 : Inf Proofs.Try.prog 31 (.slice none 0 0) 1 24 := by unfold Inf; kernel_rfl
theorem one32 : isOne Proofs.Try.prog 32 = true := by kernel_rfl
theorem sz32 : (Proofs.Try.prog.info? 32).map (·.size) = some 1 := by kernel_rfl
theorem zero32 : zeroOf Proofs.Try.prog 32 = some (.nilFunc) := by kernel_rfl
theorem inf32 : Inf Proofs.Try.prog 32 (.nilFunc) 1 8 := by unfold Inf; kernel_rfl
theorem one33 : isOne Proofs.Try.prog 33 = true := by kernel_rfl
theorem sl33 : isSl Proofs.Try.prog 33 = true := by kernel_rfl
theorem sle33 : slElem Proofs.Try.prog 33 = some 2 := by kernel_rfl
theorem und33 : (Proofs.Try.prog.underlying 33).isSome = true := by kernel_rfl
theorem sz33 : (Proofs.Try.prog.info? 33).map (·.size) = some 1 := by kernel_rfl
theorem zero33 : zeroOf Proofs.Try.prog 33 = some (.slice none 0 0) := by kernel_rfl
theorem inf33 : Inf Proofs.Try.prog 33 (.slice none 0 0) 1 24 := by unfold Inf; kernel_rfl
theorem one34 : isOne Proofs.Try.prog 34 = true := by kernel_rfl
theorem sz34 : (Proofs.Try.prog.info? 34).map (·.size) = some 1 := by kernel_rfl
theorem zero34 : zeroOf Proofs.Try.prog 34 = some (.nilFunc) := by kernel_rfl
theorem inf34 : Inf Proofs.Try.prog 34 (.nilFunc) 1 8 := by unfold Inf; kernel_rfl
theorem agg35 : aggSize Proofs.Try.prog 35 = some 1 := by kernel_rfl
theorem und35 : (Proofs.Try.prog.underlying 35).isSome = true := by kernel_rfl
theorem sz35 : (Proofs.Try.prog.info? 35).map (·.size) = some 1 := by kernel_rfl
theorem zero35 : zeroOf Proofs.Try.prog 35 = some (.agg #[.slice none 0 0]) := by kernel_rfl
theorem inf35 : Inf Proofs.Try.prog 35 (.agg #[.slice none 0 0]) 1 24 := by unfold Inf; kernel_rfl
theorem fo35_0 : fieldOff Proofs.Try.prog 35 0 = some 0 := by kernel_rfl
theorem fv35_0 : fieldOne Proofs.Try.prog 35 0 = some 0 := by kernel_rfl
theorem agg36 : aggSize Proofs.Try.prog 36 = some 1 := by kernel_rfl
theorem und36 : (Proofs.Try.prog.underlying 36).isSome = true := by kernel_rfl
theorem sz36 : (Proofs.Try.prog.info? 36).map (·.size) = some 1 := by kernel_rfl
theorem zero36 : zeroOf Proofs.Try.prog 36 = some (.agg #[.slice none 0 0]) := by kernel_rfl
theorem inf36 : Inf Proofs.Try.prog 36 (.agg #[.slice none 0 0]) 1 24 := by unfold Inf; kernel_rfl
theorem fo36_0 : fieldOff Proofs.Try.prog 36 0 = some 0 := by kernel_rfl
theorem fv36_0 : fieldOne Proofs.Try.prog 36 0 = some 0 := by kernel_rfl
theorem one37 : isOne Proofs.Try.prog 37 = true := by kernel_rfl
theorem sz37 : (Proofs.Try.prog.info? 37).map (·.size) = some 1 := by kernel_rfl
theorem zero37 : zeroOf Proofs.Try.prog 37 = some (.nilFunc) := by kernel_rfl
theorem inf37 : Inf Proofs.Try.prog 37 (.nilFunc) 1 8 := by unfold Inf; kernel_rfl
theorem one38 : isOne Proofs.Try.prog 38 = true := by kernel_rfl
theorem sz38 : (Proofs.Try.prog.info? 38).map (·.size) = some 1 := by kernel_rfl
theorem zero38 : zeroOf Proofs.Try.prog 38 = some (.nilFunc) := by kernel_rfl
theorem inf38 : Inf Proofs.Try.prog 38 (.nilFunc) 1 8 := by unfold Inf; kernel_rfl
theorem one39 : isOne Proofs.Try.prog 39 = true := by kernel_rfl
theorem sl39 : isSl Proofs.Try.prog 39 = true := by kernel_rfl
theorem sle39 : slElem Proofs.Try.prog 39 = some 9 := by kernel_rfl
theorem und39 : (Proofs.Try.prog.underlying 39).isSome = true := by kernel_rfl
theorem sz39 : (Proofs.Try.prog.info? 39).map (·.size) = some 1 := by kernel_rfl
theorem zero39 : zeroOf Proofs.Try.prog 39 = some (.slice none 0 0) := by kernel_rfl
theorem inf39 : Inf Proofs.Try.prog 39 (.slice none 0 0) 1 24 := by unfold Inf; kernel_rfl
theorem agg40 : aggSize Proofs.Try.prog 40 = some 1 := by kernel_rfl
theorem und40 : (Proofs.Try.prog.underlying 40).isSome = true := by kernel_rfl
theorem sz40 : (Proofs.Try.prog.info? 40).map (·.size) = some 1 := by kernel_rfl
theorem zero40 : zeroOf Proofs.Try.prog 40 = some (.agg #[.slice none 0 0]) := by kernel_rfl
theorem inf40 : Inf Proofs.Try.prog 40 (.agg #[.slice none 0 0]) 1 24 := by unfold Inf; kernel_rfl
theorem fo40_0 : fieldOff Proofs.Try.prog 40 0 = some 0 := by kernel_rfl
theorem fv40_0 : fieldOne Proofs.Try.prog 40 0 = some 0 := by kernel_rfl
theorem agg41 : aggSize Proofs.Try.prog 41 = some 1 := by kernel_rfl
theorem und41 : (Proofs.Try.prog.underlying 41).isSome = true := by kernel_rfl
theorem sz41 : (Proofs.Try.prog.info? 41).map (·.size) = some 1 := by kernel_rfl
theorem zero41 : zeroOf Proofs.Try.prog 41 = some (.agg #[.slice none 0 0]) := by kernel_rfl
theorem inf41 : Inf Proofs.Try.prog 41 (.agg #[.slice none 0 0]) 1 24 := by unfold Inf; kernel_rfl
theorem fo41_0 : fieldOff Proofs.Try.prog 41 0 = some 0 := by kernel_rfl
theorem fv41_0 : fieldOne Proofs.Try.prog 41 0 = some 0 := by kernel_rfl
theorem one42 : isOne Proofs.Try.prog 42 = true := by kernel_rfl
theorem sl42 : isSl Proofs.Try.prog 42 = true := by kernel_rfl
theorem sle42 : slElem Proofs.Try.prog 42 = some 4 := by kernel_rfl
theorem und42 : (Proofs.Try.prog.underlying 42).isSome = true := by kernel_rfl
theorem sz42 : (Proofs.Try.prog.info? 42).map (·.size) = some 1 := by kernel_rfl
theorem zero42 : zeroOf Proofs.Try.prog 42 = some (.slice none 0 0) := by kernel_rfl
theorem inf42 : Inf Proofs.Try.prog 42 (.slice none 0 0) 1 24 := by unfold Inf; kernel_rfl
theorem one43 : isOne Proofs.Try.prog 43 = true := by kernel_rfl
theorem sz43 : (Proofs.Try.prog.info? 43).map (·.size) = some 1 := by kernel_rfl
theorem zero43 : zeroOf Proofs.Try.prog 43 = some (.nilFunc) := by kernel_rfl
theorem inf43 : Inf Proofs.Try.prog 43 (.nilFunc) 1 8 := by unfold Inf; kernel_rfl
theorem one44 : isOne Proofs.Try.prog 44 = true := by kernel_rfl
theorem sz44 : (Proofs.Try.prog.info? 44).map (·.size) = some 1 := by kernel_rfl
theorem zero44 : zeroOf Proofs.Try.prog 44 = some (.nilFunc) := by kernel_rfl
theorem inf44 : Inf Proofs.Try.prog 44 (.nilFunc) 1 8 := by unfold Inf; kernel_rfl
theorem one45 : isOne Proofs.Try.prog 45 = true := by kernel_rfl
theorem ptr45 : isPtr Proofs.Try.prog 45 = true := by kernel_rfl
theorem sz45 : (Proofs.Try.prog.info? 45).map (·.size) = some 1 := by kernel_rfl
theorem zero45 : zeroOf Proofs.Try.prog 45 = some (.pointer none) := by kernel_rfl
theorem inf45 : Inf Proofs.Try.prog 45 (.pointer none) 1 8 := by unfold Inf; kernel_rfl
theorem sz46 : (Proofs.Try.prog.info? 46).map (·.size) = some 1 := by kernel_rfl
theorem zero46 : zeroOf Proofs.Try.prog 46 = some (.tuple #[.pointer none, .int .i64 0]) := by kernel_rfl
theorem inf46 : Inf Proofs.Try.prog 46 (.tuple #[.pointer none, .int .i64 0]) 1 0 := by unfold Inf; kernel_rfl
theorem one47 : isOne Proofs.Try.prog 47 = true := by kernel_rfl
theorem sz47 : (Proofs.Try.prog.info? 47).map (·.size) = some 1 := by kernel_rfl
theorem zero47 : zeroOf Proofs.Try.prog 47 = some (.nilFunc) := by kernel_rfl
theorem inf47 : Inf Proofs.Try.prog 47 (.nilFunc) 1 8 := by unfold Inf; kernel_rfl
theorem one48 : isOne Proofs.Try.prog 48 = true := by kernel_rfl
theorem sl48 : isSl Proofs.Try.prog 48 = true := by kernel_rfl
theorem sle48 : slElem Proofs.Try.prog 48 = some 1 := by kernel_rfl
theorem und48 : (Proofs.Try.prog.underlying 48).isSome = true := by kernel_rfl
theorem sz48 : (Proofs.Try.prog.info? 48).map (·.size) = some 1 := by kernel_rfl
theorem zero48 : zeroOf Proofs.Try.prog 48 = some (.slice none 0 0) := by kernel_rfl
theorem inf48 : Inf Proofs.Try.prog 48 (.slice none 0 0) 1 24 := by unfold Inf; kernel_rfl
theorem one49 : isOne Proofs.Try.prog 49 = true := by kernel_rfl
theorem sl49 : isSl Proofs.Try.prog 49 = true := by kernel_rfl
theorem sle49 : slElem Proofs.Try.prog 49 = some 6 := by kernel_rfl
theorem und49 : (Proofs.Try.prog.underlying 49).isSome = true := by kernel_rfl
theorem sz49 : (Proofs.Try.prog.info? 49).map (·.size) = some 1 := by kernel_rfl
theorem zero49 : zeroOf Proofs.Try.prog 49 = some (.slice none 0 0) := by kernel_rfl
theorem inf49 : Inf Proofs.Try.prog 49 (.slice none 0 0) 1 24 := by unfold Inf; kernel_rfl
theorem one50 : isOne Proofs.Try.prog 50 = true := by kernel_rfl
theorem sz50 : (Proofs.Try.prog.info? 50).map (·.size) = some 1 := by kernel_rfl
theorem zero50 : zeroOf Proofs.Try.prog 50 = some (.nilFunc) := by kernel_rfl
theorem inf50 : Inf Proofs.Try.prog 50 (.nilFunc) 1 8 := by unfold Inf; kernel_rfl
theorem one51 : isOne Proofs.Try.prog 51 = true := by kernel_rfl
theorem sz51 : (Proofs.Try.prog.info? 51).map (·.size) = some 1 := by kernel_rfl
theorem zero51 : zeroOf Proofs.Try.prog 51 = some (.nilFunc) := by kernel_rfl
theorem inf51 : Inf Proofs.Try.prog 51 (.nilFunc) 1 8 := by unfold Inf; kernel_rfl
theorem agg52 : aggSize Proofs.Try.prog 52 = some 4 := by kernel_rfl
theorem und52 : (Proofs.Try.prog.underlying 52).isSome = true := by kernel_rfl
theorem sz52 : (Proofs.Try.prog.info? 52).map (·.size) = some 4 := by kernel_rfl
theorem zero52 : zeroOf Proofs.Try.prog 52 = some (.agg #[.int .u8 0, .int .i64 0, .int .i64 0, .int .i64 0]) := by kernel_rfl
theorem inf52 : Inf Proofs.Try.prog 52 (.agg #[.int .u8 0, .int .i64 0, .int .i64 0, .int .i64 0]) 4 32 := by unfold Inf; kernel_rfl
theorem fo52_0 : fieldOff Proofs.Try.prog 52 0 = some 0 := by kernel_rfl
theorem fv52_0 : fieldOne Proofs.Try.prog 52 0 = some 0 := by kernel_rfl
theorem fo52_1 : fieldOff Proofs.Try.prog 52 1 = some 1 := by kernel_rfl
theorem fv52_1 : fieldOne Proofs.Try.prog 52 1 = some 1 := by kernel_rfl
theorem fo52_2 : fieldOff Proofs.Try.prog 52 2 = some 2 := by kernel_rfl
theorem fv52_2 : fieldOne Proofs.Try.prog 52 2 = some 2 := by kernel_rfl
theorem fo52_3 : fieldOff Proofs.Try.prog 52 3 = some 3 := by kernel_rfl
theorem fv52_3 : fieldOne Proofs.Try.prog 52 3 = some 3 := by kernel_rfl
theorem agg53 : aggSize Proofs.Try.prog 53 = some 4 := by kernel_rfl
theorem und53 : (Proofs.Try.prog.underlying 53).isSome = true := by kernel_rfl
theorem sz53 : (Proofs.Try.prog.info? 53).map (·.size) = some 4 := by kernel_rfl
theorem zero53 : zeroOf Proofs.Try.prog 53 = some (.agg #[.int .u8 0, .int .i64 0, .int .i64 0, .int .i64 0]) := by kernel_rfl
theorem inf53 : Inf Proofs.Try.prog 53 (.agg #[.int .u8 0, .int .i64 0, .int .i64 0, .int .i64 0]) 4 32 := by unfold Inf; kernel_rfl
theorem fo53_0 : fieldOff Proofs.Try.prog 53 0 = some 0 := by kernel_rfl
theorem fv53_0 : fieldOne Proofs.Try.prog 53 0 = some 0 := by kernel_rfl
theorem fo53_1 : fieldOff Proofs.Try.prog 53 1 = some 1 := by kernel_rfl
theorem fv53_1 : fieldOne Proofs.Try.prog 53 1 = some 1 := by kernel_rfl
theorem fo53_2 : fieldOff Proofs.Try.prog 53 2 = some 2 := by kernel_rfl
theorem fv53_2 : fieldOne Proofs.Try.prog 53 2 = some 2 := by kernel_rfl
theorem fo53_3 : fieldOff Proofs.Try.prog 53 3 = some 3 := by kernel_rfl
theorem fv53_3 : fieldOne Proofs.Try.prog 53 3 = some 3 := by kernel_rfl
theorem one54 : isOne Proofs.Try.prog 54 = true := by kernel_rfl
theorem sz54 : (Proofs.Try.prog.info? 54).map (·.size) = some 1 := by kernel_rfl
theorem zero54 : zeroOf Proofs.Try.prog 54 = some (.nilFunc) := by kernel_rfl
theorem inf54 : Inf Proofs.Try.prog 54 (.nilFunc) 1 8 := by unfold Inf; kernel_rfl
theorem agg55 : aggSize Proofs.Try.prog 55 = some 6 := by kernel_rfl
theorem und55 : (Proofs.Try.prog.underlying 55).isSome = true := by kernel_rfl
theorem sz55 : (Proofs.Try.prog.info? 55).map (·.size) = some 6 := by kernel_rfl
theorem zero55 : zeroOf Proofs.Try.prog 55 = some (.agg #[.int .u8 0, .int .i64 0, .int .i64 0, .int .i64 0, .int .i64 0, .bool false]) := by kernel_rfl
theorem inf55 : Inf Proofs.Try.prog 55 (.agg #[.int .u8 0, .int .i64 0, .int .i64 0, .int .i64 0, .int .i64 0, .bool false]) 6 48 := by unfold Inf; kernel_rfl
theorem fo55_0 : fieldOff Proofs.Try.prog 55 0 = some 0 := by kernel_rfl
theorem fv55_0 : fieldOne Proofs.Try.prog 55 0 = some 0 := by kernel_rfl
theorem fo55_1 : fieldOff Proofs.Try.prog 55 1 = some 1 := by kernel_rfl
theorem fv55_1 : fieldOne Proofs.Try.prog 55 1 = some 1 := by kernel_rfl
theorem fo55_2 : fieldOff Proofs.Try.prog 55 2 = some 2 := by kernel_rfl
theorem fv55_2 : fieldOne Proofs.Try.prog 55 2 = some 2 := by kernel_rfl
theorem fo55_3 : fieldOff Proofs.Try.prog 55 3 = some 3 := by kernel_rfl
theorem fv55_3 : fieldOne Proofs.Try.prog 55 3 = some 3 := by kernel_rfl
theorem fo55_4 : fieldOff Proofs.Try.prog 55 4 = some 4 := by kernel_rfl
theorem fv55_4 : fieldOne Proofs.Try.prog 55 4 = some 4 := by kernel_rfl
theorem fo55_5 : fieldOff Proofs.Try.prog 55 5 = some 5 := by kernel_rfl
theorem fv55_5 : fieldOne Proofs.Try.prog 55 5 = some 5 := by kernel_rfl
theorem agg56 : aggSize Proofs.Try.prog 56 = some 6 := by kernel_rfl
theorem und56 : (Proofs.Try.prog.underlying 56).isSome = true := by kernel_rfl
theorem sz56 : (Proofs.Try.prog.info? 56).map (·.size) = some 6 := by kernel_rfl
theorem zero56 : zeroOf Proofs.Try.prog 56 = some (.agg #[.int .u8 0, .int .i64 0, .int .i64 0, .int .i64 0, .int .i64 0, .bool false]) := by kernel_rfl
theorem inf56 : Inf Proofs.Try.prog 56 (.agg #[.int .u8 0, .int .i64 0, .int .i64 0, .int .i64 0, .int .i64 0, .bool false]) 6 48 := by unfold Inf; kernel_rfl
theorem fo56_0 : fieldOff Proofs.Try.prog 56 0 = some 0 := by kernel_rfl
theorem fv56_0 : fieldOne Proofs.Try.prog 56 0 = some 0 := by kernel_rfl
theorem fo56_1 : fieldOff Proofs.Try.prog 56 1 = some 1 := by kernel_rfl
theorem fv56_1 : fieldOne Proofs.Try.prog 56 1 = some 1 := by kernel_rfl
theorem fo56_2 : fieldOff Proofs.Try.prog 56 2 = some 2 := by kernel_rfl
theorem fv56_2 : fieldOne Proofs.Try.prog 56 2 = some 2 := by kernel_rfl
theorem fo56_3 : fieldOff Proofs.Try.prog 56 3 = some 3 := by kernel_rfl
theorem fv56_3 : fieldOne Proofs.Try.prog 56 3 = some 3 := by kernel_rfl
theorem fo56_4 : fieldOff Proofs.Try.prog 56 4 = some 4 := by kernel_rfl
theorem fv56_4 : fieldOne Proofs.Try.prog 56 4 = some 4 := by kernel_rfl
theorem fo56_5 : fieldOff Proofs.Try.prog 56 5 = some 5 := by kernel_rfl
theorem fv56_5 : fieldOne Proofs.Try.prog 56 5 = some 5 := by kernel_rfl
theorem one57 : isOne Proofs.Try.prog 57 = true := by kernel_rfl
theorem sl57 : isSl Proofs.Try.prog 57 = true := by kernel_rfl
theorem sle57 : slElem Proofs.Try.prog 57 = some 1 := by kernel_rfl
theorem und57 : (Proofs.Try.prog.underlying 57).isSome = true := by kernel_rfl
theorem sz57 : (Proofs.Try.prog.info? 57).map (·.size) = some 1 := by kernel_rfl
theorem zero57 : zeroOf Proofs.Try.prog 57 = some (.slice none 0 0) := by kernel_rfl
theorem inf57 : Inf Proofs.Try.prog 57 (.slice none 0 0) 1 24 := by unfold Inf; kernel_rfl
theorem one58 : isOne Proofs.Try.prog 58 = true := by kernel_rfl
theorem sl58 : isSl Proofs.Try.prog 58 = true := by kernel_rfl
theorem sle58 : slElem Proofs.Try.prog 58 = some 2 := by kernel_rfl
theorem und58 : (Proofs.Try.prog.underlying 58).isSome = true := by kernel_rfl
theorem sz58 : (Proofs.Try.prog.info? 58).map (·.size) = some 1 := by kernel_rfl
theorem zero58 : zeroOf Proofs.Try.prog 58 = some (.slice none 0 0) := by kernel_rfl
theorem inf58 : Inf Proofs.Try.prog 58 (.slice none 0 0) 1 24 := by unfold Inf; kernel_rfl
theorem agg59 : aggSize Proofs.Try.prog 59 = some 9 := by kernel_rfl
theorem und59 : (Proofs.Try.prog.underlying 59).isSome = true := by kernel_rfl
theorem sz59 : (Proofs.Try.prog.info? 59).map (·.size) = some 9 := by kernel_rfl
theorem zero59 : zeroOf Proofs.Try.prog 59 = some (.agg #[.string ⟨#[]⟩, .slice none 0 0, .slice none 0 0, .slice none 0 0, .slice none 0 0, .slice none 0 0, .int .i64 0, .int .i64 0, .bool false]) := by kernel_rfl
theorem inf59 : Inf Proofs.Try.prog 59 (.agg #[.string ⟨#[]⟩, .slice none 0 0, .slice none 0 0, .slice none 0 0, .slice none 0 0, .slice none 0 0, .int .i64 0, .int .i64 0, .bool false]) 9 160 := by unfold Inf; kernel_rfl
theorem fo59_0 : fieldOff Proofs.Try.prog 59 0 = some 0 := by kernel_rfl
theorem fv59_0 : fieldOne Proofs.Try.prog 59 0 = some 0 := by kernel_rfl
theorem fo59_1 : fieldOff Proofs.Try.prog 59 1 = some 1 := by kernel_rfl
theorem fv59_1 : fieldOne Proofs.Try.prog 59 1 = some 1 := by kernel_rfl
theorem fo59_2 : fieldOff Proofs.Try.prog 59 2 = some 2 := by kernel_rfl
theorem fv59_2 : fieldOne Proofs.Try.prog 59 2 = some 2 := by kernel_rfl
theorem fo59_3 : fieldOff Proofs.Try.prog 59 3 = some 3 := by kernel_rfl
theorem fv59_3 : fieldOne Proofs.Try.prog 59 3 = some 3 := by kernel_rfl
theorem fo59_4 : fieldOff Proofs.Try.prog 59 4 = some 4 := by kernel_rfl
theorem fv59_4 : fieldOne Proofs.Try.prog 59 4 = some 4 := by kernel_rfl
theorem fo59_5 : fieldOff Proofs.Try.prog 59 5 = some 5 := by kernel_rfl
theorem fv59_5 : fieldOne Proofs.Try.prog 59 5 = some 5 := by kernel_rfl
theorem fo59_6 : fieldOff Proofs.Try.prog 59 6 = some 6 := by kernel_rfl
theorem fv59_6 : fieldOne Proofs.Try.prog 59 6 = some 6 := by kernel_rfl
theorem fo59_7 : fieldOff Proofs.Try.prog 59 7 = some 7 := by kernel_rfl
theorem fv59_7 : fieldOne Proofs.Try.prog 59 7 = some 7 := by kernel_rfl
theorem fo59_8 : fieldOff Proofs.Try.prog 59 8 = some 8 := by kernel_rfl
theorem fv59_8 : fieldOne Proofs.Try.prog 59 8 = some 8 := by kernel_rfl
theorem agg60 : aggSize Proofs.Try.prog 60 = some 9 := by kernel_rfl
theorem und60 : (Proofs.Try.prog.underlying 60).isSome = true := by kernel_rfl
theorem sz60 : (Proofs.Try.prog.info? 60).map (·.size) = some 9 := by kernel_rfl
theorem zero60 : zeroOf Proofs.Try.prog 60 = some (.agg #[.string ⟨#[]⟩, .slice none 0 0, .slice none 0 0, .slice none 0 0, .slice none 0 0, .slice none 0 0, .int .i64 0, .int .i64 0, .bool false]) := by kernel_rfl
theorem inf60 : Inf Proofs.Try.prog 60 (.agg #[.string ⟨#[]⟩, .slice none 0 0, .slice none 0 0, .slice none 0 0, .slice none 0 0, .slice none 0 0, .int .i64 0, .int .i64 0, .bool false]) 9 160 := by unfold Inf; kernel_rfl
theorem fo60_0 : fieldOff Proofs.Try.prog 60 0 = some 0 := by kernel_rfl
theorem fv60_0 : fieldOne Proofs.Try.prog 60 0 = some 0 := by kernel_rfl
theorem fo60_1 : fieldOff Proofs.Try.prog 60 1 = some 1 := by kernel_rfl
theorem fv60_1 : fieldOne Proofs.Try.prog 60 1 = some 1 := by kernel_rfl
theorem fo60_2 : fieldOff Proofs.Try.prog 60 2 = some 2 := by kernel_rfl
theorem fv60_2 : fieldOne Proofs.Try.prog 60 2 = some 2 := by kernel_rfl
theorem fo60_3 : fieldOff Proofs.Try.prog 60 3 = some 3 := by kernel_rfl
theorem fv60_3 : fieldOne Proofs.Try.prog 60 3 = some 3 := by kernel_rfl
theorem fo60_4 : fieldOff Proofs.Try.prog 60 4 = some 4 := by kernel_rfl
theorem fv60_4 : fieldOne Proofs.Try.prog 60 4 = some 4 := by kernel_rfl
theorem fo60_5 : fieldOff Proofs.Try.prog 60 5 = some 5 := by kernel_rfl
theorem fv60_5 : fieldOne Proofs.Try.prog 60 5 = some 5 := by kernel_rfl
theorem fo60_6 : fieldOff Proofs.Try.prog 60 6 = some 6 := by kernel_rfl
theorem fv60_6 : fieldOne Proofs.Try.prog 60 6 = some 6 := by kernel_rfl
theorem fo60_7 : fieldOff Proofs.Try.prog 60 7 = some 7 := by kernel_rfl
theorem fv60_7 : fieldOne Proofs.Try.prog 60 7 = some 7 := by kernel_rfl
theorem fo60_8 : fieldOff Proofs.Try.prog 60 8 = some 8 := by kernel_rfl
theorem fv60_8 : fieldOne Proofs.Try.prog 60 8 = some 8 := by kernel_rfl
theorem one61 : isOne Proofs.Try.prog 61 = true := by kernel_rfl
theorem sz61 : (Proofs.Try.prog.info? 61).map (·.size) = some 1 := by kernel_rfl
theorem zero61 : zeroOf Proofs.Try.prog 61 = some (.nilFunc) := by kernel_rfl
theorem inf61 : Inf Proofs.Try.prog 61 (.nilFunc) 1 8 := by unfold Inf; kernel_rfl
theorem one62 : isOne Proofs.Try.prog 62 = true := by kernel_rfl
theorem sz62 : (Proofs.Try.prog.info? 62).map (·.size) = some 1 := by kernel_rfl
theorem zero62 : zeroOf Proofs.Try.prog 62 = some (.nilFunc) := by kernel_rfl
theorem inf62 : Inf Proofs.Try.prog 62 (.nilFunc) 1 8 := by unfold Inf; kernel_rfl
theorem one63 : isOne Proofs.Try.prog 63 = true := by kernel_rfl
theorem sz63 : (Proofs.Try.prog.info? 63).map (·.size) = some 1 := by kernel_rfl
theorem zero63 : zeroOf Proofs.Try.prog 63 = some (.nilFunc) := by kernel_rfl
theorem inf63 : Inf Proofs.Try.prog 63 (.nilFunc) 1 8 := by unfold Inf; kernel_rfl
theorem one64 : isOne Proofs.Try.prog 64 = true := by kernel_rfl
theorem sz64 : (Proofs.Try.prog.info? 64).map (·.size) = some 1 := by kernel_rfl
theorem zero64 : zeroOf Proofs.Try.prog 64 = some (.nilFunc) := by kernel_rfl
theorem inf64 : Inf Proofs.Try.prog 64 (.nilFunc) 1 8 := by unfold Inf; kernel_rfl
theorem one65 : isOne Proofs.Try.prog 65 = true := by kernel_rfl
theorem sz65 : (Proofs.Try.prog.info? 65).map (·.size) = some 1 := by kernel_rfl
theorem zero65 : zeroOf Proofs.Try.prog 65 = some (.nilFunc) := by kernel_rfl
theorem inf65 : Inf Proofs.Try.prog 65 (.nilFunc) 1 8 := by unfold Inf; kernel_rfl
theorem one66 : isOne Proofs.Try.prog 66 = true := by kernel_rfl
theorem sl66 : isSl Proofs.Try.prog 66 = true := by kernel_rfl
theorem sle66 : slElem Proofs.Try.prog 66 = some 3 := by kernel_rfl
theorem und66 : (Proofs.Try.prog.underlying 66).isSome = true := by kernel_rfl
theorem sz66 : (Proofs.Try.prog.info? 66).map (·.size) = some 1 := by kernel_rfl
theorem zero66 : zeroOf Proofs.Try.prog 66 = some (.slice none 0 0) := by kernel_rfl
theorem inf66 : Inf Proofs.Try.prog 66 (.slice none 0 0) 1 24 := by unfold Inf; kernel_rfl
theorem one67 : isOne Proofs.Try.prog 67 = true := by kernel_rfl
theorem sz67 : (Proofs.Try.prog.info? 67).map (·.size) = some 1 := by kernel_rfl
theorem zero67 : zeroOf Proofs.Try.prog 67 = some (.nilFunc) := by kernel_rfl
theorem inf67 : Inf Proofs.Try.prog 67 (.nilFunc) 1 8 := by unfold Inf; kernel_rfl
theorem agg68 : aggSize Proofs.Try.prog 68 = some 3 := by kernel_rfl
theorem und68 : (Proofs.Try.prog.underlying 68).isSome = true := by kernel_rfl
theorem sz68 : (Proofs.Try.prog.info? 68).map (·.size) = some 3 := by kernel_rfl
theorem zero68 : zeroOf Proofs.Try.prog 68 = some (.agg #[.int .u8 0, .string ⟨#[]⟩, .int .i64 0]) := by kernel_rfl
theorem inf68 : Inf Proofs.Try.prog 68 (.agg #[.int .u8 0, .string ⟨#[]⟩, .int .i64 0]) 3 32 := by unfold Inf; kernel_rfl
theorem fo68_0 : fieldOff Proofs.Try.prog 68 0 = some 0 := by kernel_rfl
theorem fv68_0 : fieldOne Proofs.Try.prog 68 0 = some 0 := by kernel_rfl
theorem fo68_1 : fieldOff Proofs.Try.prog 68 1 = some 1 := by kernel_rfl
theorem fv68_1 : fieldOne Proofs.Try.prog 68 1 = some 1 := by kernel_rfl
theorem fo68_2 : fieldOff Proofs.Try.prog 68 2 = some 2 := by kernel_rfl
theorem fv68_2 : fieldOne Proofs.Try.prog 68 2 = some 2 := by kernel_rfl
theorem agg69 : aggSize Proofs.Try.prog 69 = some 3 := by kernel_rfl
theorem und69 : (Proofs.Try.prog.underlying 69).isSome = true := by kernel_rfl
theorem sz69 : (Proofs.Try.prog.info? 69).map (·.size) = some 3 := by kernel_rfl
theorem zero69 : zeroOf Proofs.Try.prog 69 = some (.agg #[.int .u8 0, .string ⟨#[]⟩, .int .i64 0]) := by kernel_rfl
theorem inf69 : Inf Proofs.Try.prog 69 (.agg #[.int .u8 0, .string ⟨#[]⟩, .int .i64 0]) 3 32 := by unfold Inf; kernel_rfl
theorem fo69_0 : fieldOff Proofs.Try.prog 69 0 = some 0 := by kernel_rfl
theorem fv69_0 : fieldOne Proofs.Try.prog 69 0 = some 0 := by kernel_rfl
theorem fo69_1 : fieldOff Proofs.Try.prog 69 1 = some 1 := by kernel_rfl
theorem fv69_1 : fieldOne Proofs.Try.prog 69 1 = some 1 := by kernel_rfl
theorem fo69_2 : fieldOff Proofs.Try.prog 69 2 = some 2 := by kernel_rfl
theorem fv69_2 : fieldOne Proofs.Try.prog 69 2 = some 2 := by kernel_rfl
theorem one70 : isOne Proofs.Try.prog 70 = true := by kernel_rfl
theorem sz70 : (Proofs.Try.prog.info? 70).map (·.size) = some 1 := by kernel_rfl
theorem zero70 : zeroOf Proofs.Try.prog 70 = some (.nilFunc) := by kernel_rfl
theorem inf70 : Inf Proofs.Try.prog 70 (.nilFunc) 1 8 := by unfold Inf; kernel_rfl
theorem sz71 : (Proofs.Try.prog.info? 71).map (·.size) = some 1 := by kernel_rfl
theorem zero71 : zeroOf Proofs.Try.prog 71 = some (.tuple #[.int .i64 0, .bool false]) := by kernel_rfl
theorem inf71 : Inf Proofs.Try.prog 71 (.tuple #[.int .i64 0, .bool false]) 1 0 := by unfold Inf; kernel_rfl
theorem one72 : isOne Proofs.Try.prog 72 = true := by kernel_rfl
theorem sz72 : (Proofs.Try.prog.info? 72).map (·.size) = some 1 := by kernel_rfl
theorem zero72 : zeroOf Proofs.Try.prog 72 = some (.nilFunc) := by kernel_rfl
theorem inf72 : Inf Proofs.Try.prog 72 (.nilFunc) 1 8 := by unfold Inf; kernel_rfl
theorem agg73 : aggSize Proofs.Try.prog 73 = some 2 := by kernel_rfl
theorem und73 : (Proofs.Try.prog.underlying 73).isSome = true := by kernel_rfl
theorem sz73 : (Proofs.Try.prog.info? 73).map (·.size) = some 2 := by kernel_rfl
theorem zero73 : zeroOf Proofs.Try.prog 73 = some (.agg #[.string ⟨#[]⟩, .int .i64 0]) := by kernel_rfl
theorem inf73 : Inf Proofs.Try.prog 73 (.agg #[.string ⟨#[]⟩, .int .i64 0]) 2 24 := by unfold Inf; kernel_rfl
theorem fo73_0 : fieldOff Proofs.Try.prog 73 0 = some 0 := by kernel_rfl
theorem fv73_0 : fieldOne Proofs.Try.prog 73 0 = some 0 := by kernel_rfl
theorem fo73_1 : fieldOff Proofs.Try.prog 73 1 = some 1 := by kernel_rfl
theorem fv73_1 : fieldOne Proofs.Try.prog 73 1 = some 1 := by kernel_rfl
theorem agg74 : aggSize Proofs.Try.prog 74 = some 2 := by kernel_rfl
theorem und74 : (Proofs.Try.prog.underlying 74).isSome = true := by kernel_rfl
theorem sz74 : (Proofs.Try.prog.info? 74).map (·.size) = some 2 := by kernel_rfl
theorem zero74 : zeroOf Proofs.Try.prog 74 = some (.agg #[.string ⟨#[]⟩, .int .i64 0]) := by kernel_rfl
theorem inf74 : Inf Proofs.Try.prog 74 (.agg #[.string ⟨#[]⟩, .int .i64 0]) 2 24 := by unfold Inf; kernel_rfl
theorem fo74_0 : fieldOff Proofs.Try.prog 74 0 = some 0 := by kernel_rfl
theorem fv74_0 : fieldOne Proofs.Try.prog 74 0 = some 0 := by kernel_rfl
theorem fo74_1 : fieldOff Proofs.Try.prog 74 1 = some 1 := by kernel_rfl
theorem fv74_1 : fieldOne Proofs.Try.prog 74 1 = some 1 := by kernel_rfl
theorem one75 : isOne Proofs.Try.prog 75 = true := by kernel_rfl
theorem sz75 : (Proofs.Try.prog.info? 75).map (·.size) = some 1 := by kernel_rfl
theorem zero75 : zeroOf Proofs.Try.prog 75 = some (.nilFunc) := by kernel_rfl
theorem inf75 : Inf Proofs.Try.prog 75 (.nilFunc) 1 8 := by unfold Inf; kernel_rfl
theorem one76 : isOne Proofs.Try.prog 76 = true := by kernel_rfl
theorem sz76 : (Proofs.Try.prog.info? 76).map (·.size) = some 1 := by kernel_rfl
theorem zero76 : zeroOf Proofs.Try.prog 76 = some (.nilFunc) := by kernel_rfl
theorem inf76 : Inf Proofs.Try.prog 76 (.nilFunc) 1 8 := by unfold Inf; kernel_rfl
theorem one77 : isOne Proofs.Try.prog 77 = true := by kernel_rfl
theorem sz77 : (Proofs.Try.prog.info? 77).map (·.size) = some 1 := by kernel_rfl
theorem zero77 : zeroOf Proofs.Try.prog 77 = some (.nilFunc) := by kernel_rfl
theorem inf77 : Inf Proofs.Try.prog 77 (.nilFunc) 1 8 := by unfold Inf; kernel_rfl
theorem one78 : isOne Proofs.Try.prog 78 = true := by kernel_rfl
theorem ptr78 : isPtr Proofs.Try.prog 78 = true := by kernel_rfl
theorem sz78 : (Proofs.Try.prog.info? 78).map (·.size) = some 1 := by kernel_rfl
theorem zero78 : zeroOf Proofs.Try.prog 78 = some (.pointer none) := by kernel_rfl
theorem inf78 : Inf Proofs.Try.prog 78 (.pointer none) 1 8 := by unfold Inf; kernel_rfl
theorem sz79 : (Proofs.Try.prog.info? 79).map (·.size) = some 1 := by kernel_rfl
theorem zero79 : zeroOf Proofs.Try.prog 79 = some (.tuple #[.pointer none, .int .i64 0]) := by kernel_rfl
theorem inf79 : Inf Proofs.Try.prog 79 (.tuple #[.pointer none, .int .i64 0]) 1 0 := by unfold Inf; kernel_rfl
theorem one80 : isOne Proofs.Try.prog 80 = true := by kernel_rfl
theorem sz80 : (Proofs.Try.prog.info? 80).map (·.size) = some 1 := by kernel_rfl
theorem zero80 : zeroOf Proofs.Try.prog 80 = some (.nilFunc) := by kernel_rfl
theorem inf80 : Inf Proofs.Try.prog 80 (.nilFunc) 1 8 := by unfold Inf; kernel_rfl
theorem one81 : isOne Proofs.Try.prog 81 = true := by kernel_rfl
theorem sz81 : (Proofs.Try.prog.info? 81).map (·.size) = some 1 := by kernel_rfl
theorem zero81 : zeroOf Proofs.Try.prog 81 = some (.nilFunc) := by kernel_rfl
theorem inf81 : Inf Proofs.Try.prog 81 (.nilFunc) 1 8 := by unfold Inf; kernel_rfl
theorem one82 : isOne Proofs.Try.prog 82 = true := by kernel_rfl
theorem sz82 : (Proofs.Try.prog.info? 82).map (·.size) = some 1 := by kernel_rfl
theorem zero82 : zeroOf Proofs.Try.prog 82 = some (.nilFunc) := by kernel_rfl
theorem inf82 : Inf Proofs.Try.prog 82 (.nilFunc) 1 8 := by unfold Inf; kernel_rfl
theorem one83 : isOne Proofs.Try.prog 83 = true := by kernel_rfl
theorem sz83 : (Proofs.Try.prog.info? 83).map (·.size) = some 1 := by kernel_rfl
theorem zero83 : zeroOf Proofs.Try.prog 83 = some (.nilFunc) := by kernel_rfl
theorem inf83 : Inf Proofs.Try.prog 83 (.nilFunc) 1 8 := by unfold Inf; kernel_rfl
theorem one84 : isOne Proofs.Try.prog 84 = true := by kernel_rfl
theorem sz84 : (Proofs.Try.prog.info? 84).map (·.size) = some 1 := by kernel_rfl
theorem zero84 : zeroOf Proofs.Try.prog 84 = some (.nilFunc) := by kernel_rfl
theorem inf84 : Inf Proofs.Try.prog 84 (.nilFunc) 1 8 := by unfold Inf; kernel_rfl
theorem one85 : isOne Proofs.Try.prog 85 = true := by kernel_rfl
theorem sz85 : (Proofs.Try.prog.info? 85).map (·.size) = some 1 := by kernel_rfl
theorem zero85 : zeroOf Proofs.Try.prog 85 = some (.nilFunc) := by kernel_rfl
theorem inf85 : Inf Proofs.Try.prog 85 (.nilFunc) 1 8 := by unfold Inf; kernel_rfl
theorem one86 : isOne Proofs.Try.prog 86 = true := by kernel_rfl
theorem sz86 : (Proofs.Try.prog.info? 86).map (·.size) = some 1 := by kernel_rfl
theorem zero86 : zeroOf Proofs.Try.prog 86 = some (.nilFunc) := by kernel_rfl
theorem inf86 : Inf Proofs.Try.prog 86 (.nilFunc) 1 8 := by unfold Inf; kernel_rfl
theorem one87 : isOne Proofs.Try.prog 87 = true := by kernel_rfl
theorem und87 : (Proofs.Try.prog.underlying 87).isSome = true := by kernel_rfl
theorem sz87 : (Proofs.Try.prog.info? 87).map (·.size) = some 1 := by kernel_rfl
theorem zero87 : zeroOf Proofs.Try.prog 87 = some (.int .u64 0) := by kernel_rfl
theorem inf87 : Inf Proofs.Try.prog 87 (.int .u64 0) 1 8 := by unfold Inf; kernel_rfl
theorem one88 : isOne Proofs.Try.prog 88 = true := by kernel_rfl
theorem ptr88 : isPtr Proofs.Try.prog 88 = true := by kernel_rfl
theorem sz88 : (Proofs.Try.prog.info? 88).map (·.size) = some 1 := by kernel_rfl
theorem zero88 : zeroOf Proofs.Try.prog 88 = some (.pointer none) := by kernel_rfl
theorem inf88 : Inf Proofs.Try.prog 88 (.pointer none) 1 8 := by unfold Inf; kernel_rfl
theorem one89 : isOne Proofs.Try.prog 89 = true := by kernel_rfl
theorem sz89 : (Proofs.Try.prog.info? 89).map (·.size) = some 1 := by kernel_rfl
theorem zero89 : zeroOf Proofs.Try.prog 89 = some (.nilFunc) := by kernel_rfl
theorem inf89 : Inf Proofs.Try.prog 89 (.nilFunc) 1 8 := by unfold Inf; kernel_rfl
theorem sz90 : (Proofs.Try.prog.info? 90).map (·.size) = some 1 := by kernel_rfl
theorem zero90 : zeroOf Proofs.Try.prog 90 = some (.tuple #[.int .i64 0, .int .i64 0]) := by kernel_rfl
theorem inf90 : Inf Proofs.Try.prog 90 (.tuple #[.int .i64 0, .int .i64 0]) 1 0 := by unfold Inf; kernel_rfl
theorem one91 : isOne Proofs.Try.prog 91 = true := by kernel_rfl
theorem sz91 : (Proofs.Try.prog.info? 91).map (·.size) = some 1 := by kernel_rfl
theorem zero91 : zeroOf Proofs.Try.prog 91 = some (.nilFunc) := by kernel_rfl
theorem inf91 : Inf Proofs.Try.prog 91 (.nilFunc) 1 8 := by unfold Inf; kernel_rfl
theorem one92 : isOne Proofs.Try.prog 92 = true := by kernel_rfl
theorem sz92 : (Proofs.Try.prog.info? 92).map (·.size) = some 1 := by kernel_rfl
theorem zero92 : zeroOf Proofs.Try.prog 92 = some (.nilFunc) := by kernel_rfl
theorem inf92 : Inf Proofs.Try.prog 92 (.nilFunc) 1 8 := by unfold Inf; kernel_rfl
theorem one93 : isOne Proofs.Try.prog 93 = true := by kernel_rfl
theorem sz93 : (Proofs.Try.prog.info? 93).map (·.size) = some 1 := by kernel_rfl
theorem zero93 : zeroOf Proofs.Try.prog 93 = some (.nilFunc) := by kernel_rfl
theorem inf93 : Inf Proofs.Try.prog 93 (.nilFunc) 1 8 := by unfold Inf; kernel_rfl
theorem one94 : isOne Proofs.Try.prog 94 = true := by kernel_rfl
theorem sz94 : (Proofs.Try.prog.info? 94).map (·.size) = some 1 := by kernel_rfl
theorem zero94 : zeroOf Proofs.Try.prog 94 = some (.nilFunc) := by kernel_rfl
theorem inf94 : Inf Proofs.Try.prog 94 (.nilFunc) 1 8 := by unfold Inf; kernel_rfl
theorem sz95 : (Proofs.Try.prog.info? 95).map (·.size) = some 1 := by kernel_rfl
theorem zero95 : zeroOf Proofs.Try.prog 95 = some (.tuple #[.pointer none, .int .i64 0]) := by kernel_rfl
theorem inf95 : Inf Proofs.Try.prog 95 (.tuple #[.pointer none, .int .i64 0]) 1 0 := by unfold Inf; kernel_rfl
theorem one96 : isOne Proofs.Try.prog 96 = true := by kernel_rfl
theorem sz96 : (Proofs.Try.prog.info? 96).map (·.size) = some 1 := by kernel_rfl
theorem zero96 : zeroOf Proofs.Try.prog 96 = some (.nilFunc) := by kernel_rfl
theorem inf96 : Inf Proofs.Try.prog 96 (.nilFunc) 1 8 := by unfold Inf; kernel_rfl
theorem one97 : isOne Proofs.Try.prog 97 = true := by kernel_rfl
theorem ptr97 : isPtr Proofs.Try.prog 97 = true := by kernel_rfl
theorem sz97 : (Proofs.Try.prog.info? 97).map (·.size) = some 1 := by kernel_rfl
theorem zero97 : zeroOf Proofs.Try.prog 97 = some (.pointer none) := by kernel_rfl
theorem inf97 : Inf Proofs.Try.prog 97 (.pointer none) 1 8 := by unfold Inf; kernel_rfl
theorem sz98 : (Proofs.Try.prog.info? 98).map (·.size) = some 1 := by kernel_rfl
theorem zero98 : zeroOf Proofs.Try.prog 98 = some (.tuple #[.pointer none, .int .i64 0]) := by kernel_rfl
theorem inf98 : Inf Proofs.Try.prog 98 (.tuple #[.pointer none, .int .i64 0]) 1 0 := by unfold Inf; kernel_rfl
theorem one99 : isOne Proofs.Try.prog 99 = true := by kernel_rfl
theorem sz99 : (Proofs.Try.prog.info? 99).map (·.size) = some 1 := by kernel_rfl
theorem zero99 : zeroOf Proofs.Try.prog 99 = some (.nilFunc) := by kernel_rfl
theorem inf99 : Inf Proofs.Try.prog 99 (.nilFunc) 1 8 := by unfold Inf; kernel_rfl
theorem one100 : isOne Proofs.Try.prog 100 = true := by kernel_rfl
theorem sl100 : isSl Proofs.Try.prog 100 = true := by kernel_rfl
theorem sle100 : slElem Proofs.Try.prog 100 = some 5 := by kernel_rfl
theorem und100 : (Proofs.Try.prog.underlying 100).isSome = true := by kernel_rfl
theorem sz100 : (Proofs.Try.prog.info? 100).map (·.size) = some 1 := by kernel_rfl
theorem zero100 : zeroOf Proofs.Try.prog 100 = some (.slice none 0 0) := by kernel_rfl
theorem inf100 : Inf Proofs.Try.prog 100 (.slice none 0 0) 1 24 := by unfold Inf; kernel_rfl
theorem agg101 : aggSize Proofs.Try.prog 101 = some 2 := by kernel_rfl
theorem und101 : (Proofs.Try.prog.underlying 101).isSome = true := by kernel_rfl
theorem sz101 : (Proofs.Try.prog.info? 101).map (·.size) = some 2 := by kernel_rfl
theorem zero101 : zeroOf Proofs.Try.prog 101 = some (.agg #[.int .i64 0, .slice none 0 0]) := by kernel_rfl
theorem inf101 : Inf Proofs.Try.prog 101 (.agg #[.int .i64 0, .slice none 0 0]) 2 32 := by unfold Inf; kernel_rfl
theorem fo101_0 : fieldOff Proofs.Try.prog 101 0 = some 0 := by kernel_rfl
theorem fv101_0 : fieldOne Proofs.Try.prog 101 0 = some 0 := by kernel_rfl
theorem fo101_1 : fieldOff Proofs.Try.prog 101 1 = some 1 := by kernel_rfl
theorem fv101_1 : fieldOne Proofs.Try.prog 101 1 = some 1 := by kernel_rfl
theorem agg102 : aggSize Proofs.Try.prog 102 = some 2 := by kernel_rfl
theorem und102 : (Proofs.Try.prog.underlying 102).isSome = true := by kernel_rfl
theorem sz102 : (Proofs.Try.prog.info? 102).map (·.size) = some 2 := by kernel_rfl
theorem zero102 : zeroOf Proofs.Try.prog 102 = some (.agg #[.int .i64 0, .slice none 0 0]) := by kernel_rfl
theorem inf102 : Inf Proofs.Try.prog 102 (.agg #[.int .i64 0, .slice none 0 0]) 2 32 := by unfold Inf; kernel_rfl
theorem fo102_0 : fieldOff Proofs.Try.prog 102 0 = some 0 := by kernel_rfl
theorem fv102_0 : fieldOne Proofs.Try.prog 102 0 = some 0 := by kernel_rfl
theorem fo102_1 : fieldOff Proofs.Try.prog 102 1 = some 1 := by kernel_rfl
theorem fv102_1 : fieldOne Proofs.Try.prog 102 1 = some 1 := by kernel_rfl
theorem one103 : isOne Proofs.Try.prog 103 = true := by kernel_rfl
theorem sz103 : (Proofs.Try.prog.info? 103).map (·.size) = some 1 := by kernel_rfl
theorem zero103 : zeroOf Proofs.Try.prog 103 = some (.nilFunc) := by kernel_rfl
theorem inf103 : Inf Proofs.Try.prog 103 (.nilFunc) 1 8 := by unfold Inf; kernel_rfl
theorem agg104 : aggSize Proofs.Try.prog 104 = some 5 := by kernel_rfl
theorem und104 : (Proofs.Try.prog.underlying 104).isSome = true := by kernel_rfl
theorem sz104 : (Proofs.Try.prog.info? 104).map (·.size) = some 5 := by kernel_rfl
theorem zero104 : zeroOf Proofs.Try.prog 104 = some (.agg #[.int .i64 0, .int .i64 0, .int .i64 0, .int .i64 0, .int .i64 0]) := by kernel_rfl
theorem inf104 : Inf Proofs.Try.prog 104 (.agg #[.int .i64 0, .int .i64 0, .int .i64 0, .int .i64 0, .int .i64 0]) 5 40 := by unfold Inf; kernel_rfl
theorem fo104_0 : fieldOff Proofs.Try.prog 104 0 = some 0 := by kernel_rfl
theorem fv104_0 : fieldOne Proofs.Try.prog 104 0 = some 0 := by kernel_rfl
theorem fo104_1 : fieldOff Proofs.Try.prog 104 1 = some 1 := by kernel_rfl
theorem fv104_1 : fieldOne Proofs.Try.prog 104 1 = some 1 := by kernel_rfl
theorem fo104_2 : fieldOff Proofs.Try.prog 104 2 = some 2 := by kernel_rfl
theorem fv104_2 : fieldOne Proofs.Try.prog 104 2 = some 2 := by kernel_rfl
theorem fo104_3 : fieldOff Proofs.Try.prog 104 3 = some 3 := by kernel_rfl
theorem fv104_3 : fieldOne Proofs.Try.prog 104 3 = some 3 := by kernel_rfl
theorem fo104_4 : fieldOff Proofs.Try.prog 104 4 = some 4 := by kernel_rfl
theorem fv104_4 : fieldOne Proofs.Try.prog 104 4 = some 4 := by kernel_rfl
theorem agg105 : aggSize Proofs.Try.prog 105 = some 5 := by kernel_rfl
theorem und105 : (Proofs.Try.prog.underlying 105).isSome = true := by kernel_rfl
theorem sz105 : (Proofs.Try.prog.info? 105).map (·.size) = some 5 := by kernel_rfl
theorem zero105 : zeroOf Proofs.Try.prog 105 = some (.agg #[.int .i64 0, .int .i64 0, .int .i64 0, .int .i64 0, .int .i64 0]) := by kernel_rfl
theorem inf105 : Inf Proofs.Try.prog 105 (.agg #[.int .i64 0, .int .i64 0, .int .i64 0, .int .i64 0, .int .i64 0]) 5 40 := by unfold Inf; kernel_rfl
theorem fo105_0 : fieldOff Proofs.Try.prog 105 0 = some 0 := by kernel_rfl
theorem fv105_0 : fieldOne Proofs.Try.prog 105 0 = some 0 := by kernel_rfl
theorem fo105_1 : fieldOff Proofs.Try.prog 105 1 = some 1 := by kernel_rfl
theorem fv105_1 : fieldOne Proofs.Try.prog 105 1 = some 1 := by kernel_rfl
theorem fo105_2 : fieldOff Proofs.Try.prog 105 2 = some 2 := by kernel_rfl
theorem fv105_2 : fieldOne Proofs.Try.prog 105 2 = some 2 := by kernel_rfl
theorem fo105_3 : fieldOff Proofs.Try.prog 105 3 = some 3 := by kernel_rfl
theorem fv105_3 : fieldOne Proofs.Try.prog 105 3 = some 3 := by kernel_rfl
theorem fo105_4 : fieldOff Proofs.Try.prog 105 4 = some 4 := by kernel_rfl
theorem fv105_4 : fieldOne Proofs.Try.prog 105 4 = some 4 := by kernel_rfl
theorem one106 : isOne Proofs.Try.prog 106 = true := by kernel_rfl
theorem sl106 : isSl Proofs.Try.prog 106 = true := by kernel_rfl
theorem sle106 : slElem Proofs.Try.prog 106 = some 5 := by kernel_rfl
theorem und106 : (Proofs.Try.prog.underlying 106).isSome = true := by kernel_rfl
theorem sz106 : (Proofs.Try.prog.info? 106).map (·.size) = some 1 := by kernel_rfl
theorem zero106 : zeroOf Proofs.Try.prog 106 = some (.slice none 0 0) := by kernel_rfl
theorem inf106 : Inf Proofs.Try.prog 106 (.slice none 0 0) 1 24 := by unfold Inf; kernel_rfl
theorem sz107 : (Proofs.Try.prog.info? 107).map (·.size) = some 1 := by kernel_rfl
theorem zero107 : zeroOf Proofs.Try.prog 107 = some (.tuple #[.pointer none, .int .i64 0, .bool false]) := by kernel_rfl
theorem inf107 : Inf Proofs.Try.prog 107 (.tuple #[.pointer none, .int .i64 0, .bool false]) 1 0 := by unfold Inf; kernel_rfl
theorem one108 : isOne Proofs.Try.prog 108 = true := by kernel_rfl
theorem sz108 : (Proofs.Try.prog.info? 108).map (·.size) = some 1 := by kernel_rfl
theorem zero108 : zeroOf Proofs.Try.prog 108 = some (.nilFunc) := by kernel_rfl
theorem inf108 : Inf Proofs.Try.prog 108 (.nilFunc) 1 8 := by unfold Inf; kernel_rfl
theorem agg109 : aggSize Proofs.Try.prog 109 = some 5 := by kernel_rfl
theorem und109 : (Proofs.Try.prog.underlying 109).isSome = true := by kernel_rfl
theorem sz109 : (Proofs.Try.prog.info? 109).map (·.size) = some 5 := by kernel_rfl
theorem zero109 : zeroOf Proofs.Try.prog 109 = some (.agg #[.int .i64 0, .int .i64 0, .int .i64 0, .int .i64 0, .int .i64 0]) := by kernel_rfl
theorem inf109 : Inf Proofs.Try.prog 109 (.agg #[.int .i64 0, .int .i64 0, .int .i64 0, .int .i64 0, .int .i64 0]) 5 40 := by unfold Inf; kernel_rfl
theorem fo109_0 : fieldOff Proofs.Try.prog 109 0 = some 0 := by kernel_rfl
theorem fv109_0 : fieldOne Proofs.Try.prog 109 0 = some 0 := by kernel_rfl
theorem fo109_1 : fieldOff Proofs.Try.prog 109 1 = some 1 := by kernel_rfl
theorem fv109_1 : fieldOne Proofs.Try.prog 109 1 = some 1 := by kernel_rfl
theorem fo109_2 : fieldOff Proofs.Try.prog 109 2 = some 2 := by kernel_rfl
theorem fv109_2 : fieldOne Proofs.Try.prog 109 2 = some 2 := by kernel_rfl
theorem fo109_3 : fieldOff Proofs.Try.prog 109 3 = some 3 := by kernel_rfl
theorem fv109_3 : fieldOne Proofs.Try.prog 109 3 = some 3 := by kernel_rfl
theorem fo109_4 : fieldOff Proofs.Try.prog 109 4 = some 4 := by kernel_rfl
theorem fv109_4 : fieldOne Proofs.Try.prog 109 4 = some 4 := by kernel_rfl
theorem agg110 : aggSize Proofs.Try.prog 110 = some 5 := by kernel_rfl
theorem und110 : (Proofs.Try.prog.underlying 110).isSome = true := by kernel_rfl
theorem sz110 : (Proofs.Try.prog.info? 110).map (·.size) = some 5 := by kernel_rfl
theorem zero110 : zeroOf Proofs.Try.prog 110 = some (.agg #[.int .i64 0, .int .i64 0, .int .i64 0, .int .i64 0, .int .i64 0]) := by kernel_rfl
theorem inf110 : Inf Proofs.Try.prog 110 (.agg #[.int .i64 0, .int .i64 0, .int .i64 0, .int .i64 0, .int .i64 0]) 5 40 := by unfold Inf; kernel_rfl
theorem fo110_0 : fieldOff Proofs.Try.prog 110 0 = some 0 := by kernel_rfl
theorem fv110_0 : fieldOne Proofs.Try.prog 110 0 = some 0 := by kernel_rfl
theorem fo110_1 : fieldOff Proofs.Try.prog 110 1 = some 1 := by kernel_rfl
theorem fv110_1 : fieldOne Proofs.Try.prog 110 1 = some 1 := by kernel_rfl
theorem fo110_2 : fieldOff Proofs.Try.prog 110 2 = some 2 := by kernel_rfl
theorem fv110_2 : fieldOne Proofs.Try.prog 110 2 = some 2 := by kernel_rfl
theorem fo110_3 : fieldOff Proofs.Try.prog 110 3 = some 3 := by kernel_rfl
theorem fv110_3 : fieldOne Proofs.Try.prog 110 3 = some 3 := by kernel_rfl
theorem fo110_4 : fieldOff Proofs.Try.prog 110 4 = some 4 := by kernel_rfl
theorem fv110_4 : fieldOne Proofs.Try.prog 110 4 = some 4 := by kernel_rfl
theorem one111 : isOne Proofs.Try.prog 111 = true := by kernel_rfl
theorem sz111 : (Proofs.Try.prog.info? 111).map (·.size) = some 1 := by kernel_rfl
theorem zero111 : zeroOf Proofs.Try.prog 111 = some (.nilFunc) := by kernel_rfl
theorem inf111 : Inf Proofs.Try.prog 111 (.nilFunc) 1 8 := by unfold Inf; kernel_rfl
theorem one112 : isOne Proofs.Try.prog 112 = true := by kernel_rfl
theorem sz112 : (Proofs.Try.prog.info? 112).map (·.size) = some 1 := by kernel_rfl
theorem zero112 : zeroOf Proofs.Try.prog 112 = some (.nilFunc) := by kernel_rfl
theorem inf112 : Inf Proofs.Try.prog 112 (.nilFunc) 1 8 := by unfold Inf; kernel_rfl
theorem agg113 : aggSize Proofs.Try.prog 113 = some 4 := by kernel_rfl
theorem und113 : (Proofs.Try.prog.underlying 113).isSome = true := by kernel_rfl
theorem sz113 : (Proofs.Try.prog.info? 113).map (·.size) = some 4 := by kernel_rfl
theorem zero113 : zeroOf Proofs.Try.prog 113 = some (.agg #[.int .i64 0, .int .i64 0, .int .i64 0, .int .i64 0]) := by kernel_rfl
theorem inf113 : Inf Proofs.Try.prog 113 (.agg #[.int .i64 0, .int .i64 0, .int .i64 0, .int .i64 0]) 4 32 := by unfold Inf; kernel_rfl
theorem fo113_0 : fieldOff Proofs.Try.prog 113 0 = some 0 := by kernel_rfl
theorem fv113_0 : fieldOne Proofs.Try.prog 113 0 = some 0 := by kernel_rfl
theorem fo113_1 : fieldOff Proofs.Try.prog 113 1 = some 1 := by kernel_rfl
theorem fv113_1 : fieldOne Proofs.Try.prog 113 1 = some 1 := by kernel_rfl
theorem fo113_2 : fieldOff Proofs.Try.prog 113 2 = some 2 := by kernel_rfl
theorem fv113_2 : fieldOne Proofs.Try.prog 113 2 = some 2 := by kernel_rfl
theorem fo113_3 : fieldOff Proofs.Try.prog 113 3 = some 3 := by kernel_rfl
theorem fv113_3 : fieldOne Proofs.Try.prog 113 3 = some 3 := by kernel_rfl
theorem agg114 : aggSize Proofs.Try.prog 114 = some 4 := by kernel_rfl
theorem und114 : (Proofs.Try.prog.underlying 114).isSome = true := by kernel_rfl
theorem sz114 : (Proofs.Try.prog.info? 114).map (·.size) = some 4 := by kernel_rfl
theorem zero114 : zeroOf Proofs.Try.prog 114 = some (.agg #[.int .i64 0, .int .i64 0, .int .i64 0, .int .i64 0]) := by kernel_rfl
theorem inf114 : Inf Proofs.Try.prog 114 (.agg #[.int .i64 0, .int .i64 0, .int .i64 0, .int .i64 0]) 4 32 := by unfold Inf; kernel_rfl
theorem fo114_0 : fieldOff Proofs.Try.prog 114 0 = some 0 := by kernel_rfl
theorem fv114_0 : fieldOne Proofs.Try.prog 114 0 = some 0 := by kernel_rfl
theorem fo114_1 : fieldOff Proofs.Try.prog 114 1 = some 1 := by kernel_rfl
theorem fv114_1 : fieldOne Proofs.Try.prog 114 1 = some 1 := by kernel_rfl
theorem fo114_2 : fieldOff Proofs.Try.prog 114 2 = some 2 := by kernel_rfl
theorem fv114_2 : fieldOne Proofs.Try.prog 114 2 = some 2 := by kernel_rfl
theorem fo114_3 : fieldOff Proofs.Try.prog 114 3 = some 3 := by kernel_rfl
theorem fv114_3 : fieldOne Proofs.Try.prog 114 3 = some 3 := by kernel_rfl
theorem sz115 : (Proofs.Try.prog.info? 115).map (·.size) = some 1 := by kernel_rfl
theorem zero115 : zeroOf Proofs.Try.prog 115 = some (.tuple #[.agg #[.int .i64 0, .int .i64 0, .int .i64 0, .int .i64 0], .int .i64 0]) := by kernel_rfl
theorem inf115 : Inf Proofs.Try.prog 115 (.tuple #[.agg #[.int .i64 0, .int .i64 0, .int .i64 0, .int .i64 0], .int .i64 0]) 1 0 := by unfold Inf; kernel_rfl
theorem one116 : isOne Proofs.Try.prog 116 = true := by kernel_rfl
theorem sz116 : (Proofs.Try.prog.info? 116).map (·.size) = some 1 := by kernel_rfl
theorem zero116 : zeroOf Proofs.Try.prog 116 = some (.nilFunc) := by kernel_rfl
theorem inf116 : Inf Proofs.Try.prog 116 (.nilFunc) 1 8 := by unfold Inf; kernel_rfl
theorem one117 : isOne Proofs.Try.prog 117 = true := by kernel_rfl
theorem sz117 : (Proofs.Try.prog.info? 117).map (·.size) = some 1 := by kernel_rfl
theorem zero117 : zeroOf Proofs.Try.prog 117 = some (.nilFunc) := by kernel_rfl
theorem inf117 : Inf Proofs.Try.prog 117 (.nilFunc) 1 8 := by unfold Inf; kernel_rfl
theorem one118 : isOne Proofs.Try.prog 118 = true := by kernel_rfl
theorem sz118 : (Proofs.Try.prog.info? 118).map (·.size) = some 1 := by kernel_rfl
theorem zero118 : zeroOf Proofs.Try.prog 118 = some (.nilFunc) := by kernel_rfl
theorem inf118 : Inf Proofs.Try.prog 118 (.nilFunc) 1 8 := by unfold Inf; kernel_rfl
theorem one119 : isOne Proofs.Try.prog 119 = true := by kernel_rfl
theorem sz119 : (Proofs.Try.prog.info? 119).map (·.size) = some 1 := by kernel_rfl
theorem zero119 : zeroOf Proofs.Try.prog 119 = some (.nilFunc) := by kernel_rfl
theorem inf119 : Inf Proofs.Try.prog 119 (.nilFunc) 1 8 := by unfold Inf; kernel_rfl
theorem one120 : isOne Proofs.Try.prog 120 = true := by kernel_rfl
theorem sl120 : isSl Proofs.Try.prog 120 = true := by kernel_rfl
theorem sle120 : slElem Proofs.Try.prog 120 = some 4 := by kernel_rfl
theorem und120 : (Proofs.Try.prog.underlying 120).isSome = true := by kernel_rfl
theorem sz120 : (Proofs.Try.prog.info? 120).map (·.size) = some 1 := by kernel_rfl
theorem zero120 : zeroOf Proofs.Try.prog 120 = some (.slice none 0 0) := by kernel_rfl
theorem inf120 : Inf Proofs.Try.prog 120 (.slice none 0 0) 1 24 := by unfold Inf; kernel_rfl
theorem sz121 : (Proofs.Try.prog.info? 121).map (·.size) = some 1 := by kernel_rfl
theorem zero121 : zeroOf Proofs.Try.prog 121 = some (.tuple #[.slice none 0 0, .slice none 0 0]) := by kernel_rfl
theorem inf121 : Inf Proofs.Try.prog 121 (.tuple #[.slice none 0 0, .slice none 0 0]) 1 0 := by unfold Inf; kernel_rfl
theorem one122 : isOne Proofs.Try.prog 122 = true := by kernel_rfl
theorem sz122 : (Proofs.Try.prog.info? 122).map (·.size) = some 1 := by kernel_rfl
theorem zero122 : zeroOf Proofs.Try.prog 122 = some (.nilFunc) := by kernel_rfl
theorem inf122 : Inf Proofs.Try.prog 122 (.nilFunc) 1 8 := by unfold Inf; kernel_rfl
theorem one123 : isOne Proofs.Try.prog 123 = true := by kernel_rfl
theorem sz123 : (Proofs.Try.prog.info? 123).map (·.size) = some 1 := by kernel_rfl
theorem zero123 : zeroOf Proofs.Try.prog 123 = some (.nilFunc) := by kernel_rfl
theorem inf123 : Inf Proofs.Try.prog 123 (.nilFunc) 1 8 := by unfold Inf; kernel_rfl
theorem one124 : isOne Proofs.Try.prog 124 = true := by kernel_rfl
theorem ptr124 : isPtr Proofs.Try.prog 124 = true := by kernel_rfl
theorem sz124 : (Proofs.Try.prog.info? 124).map (·.size) = some 1 := by kernel_rfl
theorem zero124 : zeroOf Proofs.Try.prog 124 = some (.pointer none) := by kernel_rfl
theorem inf124 : Inf Proofs.Try.prog 124 (.pointer none) 1 8 := by unfold Inf; kernel_rfl
theorem one125 : isOne Proofs.Try.prog 125 = true := by kernel_rfl
theorem sz125 : (Proofs.Try.prog.info? 125).map (·.size) = some 1 := by kernel_rfl
theorem zero125 : zeroOf Proofs.Try.prog 125 = some (.nilFunc) := by kernel_rfl
theorem inf125 : Inf Proofs.Try.prog 125 (.nilFunc) 1 8 := by unfold Inf; kernel_rfl
theorem one126 : isOne Proofs.Try.prog 126 = true := by kernel_rfl
theorem sz126 : (Proofs.Try.prog.info? 126).map (·.size) = some 1 := by kernel_rfl
theorem zero126 : zeroOf Proofs.Try.prog 126 = some (.nilFunc) := by kernel_rfl
theorem inf126 : Inf Proofs.Try.prog 126 (.nilFunc) 1 8 := by unfold Inf; kernel_rfl
theorem one127 : isOne Proofs.Try.prog 127 = true := by kernel_rfl
theorem sz127 : (Proofs.Try.prog.info? 127).map (·.size) = some 1 := by kernel_rfl
theorem zero127 : zeroOf Proofs.Try.prog 127 = some (.nilFunc) := by kernel_rfl
theorem inf127 : Inf Proofs.Try.prog 127 (.nilFunc) 1 8 := by unfold Inf; kernel_rfl
theorem one128 : isOne Proofs.Try.prog 128 = true := by kernel_rfl
theorem ptr128 : isPtr Proofs.Try.prog 128 = true := by kernel_rfl
theorem sz128 : (Proofs.Try.prog.info? 128).map (·.size) = some 1 := by kernel_rfl
theorem zero128 : zeroOf Proofs.Try.prog 128 = some (.pointer none) := by kernel_rfl
theorem inf128 : Inf Proofs.Try.prog 128 (.pointer none) 1 8 := by unfold Inf; kernel_rfl
theorem one129 : isOne Proofs.Try.prog 129 = true := by kernel_rfl
theorem sz129 : (Proofs.Try.prog.info? 129).map (·.size) = some 1 := by kernel_rfl
theorem zero129 : zeroOf Proofs.Try.prog 129 = some (.nilFunc) := by kernel_rfl
theorem inf129 : Inf Proofs.Try.prog 129 (.nilFunc) 1 8 := by unfold Inf; kernel_rfl
theorem agg130 : aggSize Proofs.Try.prog 130 = some 2 := by kernel_rfl
theorem und130 : (Proofs.Try.prog.underlying 130).isSome = true := by kernel_rfl
theorem sz130 : (Proofs.Try.prog.info? 130).map (·.size) = some 2 := by kernel_rfl
theorem zero130 : zeroOf Proofs.Try.prog 130 = some (.agg #[.string ⟨#[]⟩, .int .i64 0]) := by kernel_rfl
theorem inf130 : Inf Proofs.Try.prog 130 (.agg #[.string ⟨#[]⟩, .int .i64 0]) 2 24 := by unfold Inf; kernel_rfl
theorem fo130_0 : fieldOff Proofs.Try.prog 130 0 = some 0 := by kernel_rfl
theorem fv130_0 : fieldOne Proofs.Try.prog 130 0 = some 0 := by kernel_rfl
theorem fo130_1 : fieldOff Proofs.Try.prog 130 1 = some 1 := by kernel_rfl
theorem fv130_1 : fieldOne Proofs.Try.prog 130 1 = some 1 := by kernel_rfl
theorem one131 : isOne Proofs.Try.prog 131 = true := by kernel_rfl
theorem sz131 : (Proofs.Try.prog.info? 131).map (·.size) = some 1 := by kernel_rfl
theorem zero131 : zeroOf Proofs.Try.prog 131 = some (.nilFunc) := by kernel_rfl
theorem inf131 : Inf Proofs.Try.prog 131 (.nilFunc) 1 8 := by unfold Inf; kernel_rfl
theorem agg132 : aggSize Proofs.Try.prog 132 = some 1 := by kernel_rfl
theorem und132 : (Proofs.Try.prog.underlying 132).isSome = true := by kernel_rfl
theorem sz132 : (Proofs.Try.prog.info? 132).map (·.size) = some 1 := by kernel_rfl
theorem zero132 : zeroOf Proofs.Try.prog 132 = some (.agg #[.slice none 0 0]) := by kernel_rfl
theorem inf132 : Inf Proofs.Try.prog 132 (.agg #[.slice none 0 0]) 1 24 := by unfold Inf; kernel_rfl
theorem fo132_0 : fieldOff Proofs.Try.prog 132 0 = some 0 := by kernel_rfl
theorem fv132_0 : fieldOne Proofs.Try.prog 132 0 = some 0 := by kernel_rfl
theorem agg133 : aggSize Proofs.Try.prog 133 = some 1 := by kernel_rfl
theorem und133 : (Proofs.Try.prog.underlying 133).isSome = true := by kernel_rfl
theorem sz133 : (Proofs.Try.prog.info? 133).map (·.size) = some 1 := by kernel_rfl
theorem zero133 : zeroOf Proofs.Try.prog 133 = some (.agg #[.slice none 0 0]) := by kernel_rfl
theorem inf133 : Inf Proofs.Try.prog 133 (.agg #[.slice none 0 0]) 1 24 := by unfold Inf; kernel_rfl
theorem fo133_0 : fieldOff Proofs.Try.prog 133 0 = some 0 := by kernel_rfl
theorem fv133_0 : fieldOne Proofs.Try.prog 133 0 = some 0 := by kernel_rfl
theorem one134 : isOne Proofs.Try.prog 134 = true := by kernel_rfl
theorem sz134 : (Proofs.Try.prog.info? 134).map (·.size) = some 1 := by kernel_rfl
theorem zero134 : zeroOf Proofs.Try.prog 134 = some (.nilFunc) := by kernel_rfl
theorem inf134 : Inf Proofs.Try.prog 134 (.nilFunc) 1 8 := by unfold Inf; kernel_rfl
theorem one135 : isOne Proofs.Try.prog 135 = true := by kernel_rfl
theorem sz135 : (Proofs.Try.prog.info? 135).map (·.size) = some 1 := by kernel_rfl
theorem zero135 : zeroOf Proofs.Try.prog 135 = some (.nilFunc) := by kernel_rfl
theorem inf135 : Inf Proofs.Try.prog 135 (.nilFunc) 1 8 := by unfold Inf; kernel_rfl
theorem one136 : isOne Proofs.Try.prog 136 = true := by kernel_rfl
theorem sz136 : (Proofs.Try.prog.info? 136).map (·.size) = some 1 := by kernel_rfl
theorem zero136 : zeroOf Proofs.Try.prog 136 = some (.nilFunc) := by kernel_rfl
theorem inf136 : Inf Proofs.Try.prog 136 (.nilFunc) 1 8 := by unfold Inf; kernel_rfl
theorem one137 : isOne Proofs.Try.prog 137 = true := by kernel_rfl
theorem sz137 : (Proofs.Try.prog.info? 137).map (·.size) = some 1 := by kernel_rfl
theorem zero137 : zeroOf Proofs.Try.prog 137 = some (.nilFunc) := by kernel_rfl
theorem inf137 : Inf Proofs.Try.prog 137 (.nilFunc) 1 8 := by unfold Inf; kernel_rfl
theorem one138 : isOne Proofs.Try.prog 138 = true := by kernel_rfl
theorem sz138 : (Proofs.Try.prog.info? 138).map (·.size) = some 1 := by kernel_rfl
theorem zero138 : zeroOf Proofs.Try.prog 138 = some (.nilFunc) := by kernel_rfl
theorem inf138 : Inf Proofs.Try.prog 138 (.nilFunc) 1 8 := by unfold Inf; kernel_rfl
theorem one139 : isOne Proofs.Try.prog 139 = true := by kernel_rfl
theorem sz139 : (Proofs.Try.prog.info? 139).map (·.size) = some 1 := by kernel_rfl
theorem zero139 : zeroOf Proofs.Try.prog 139 = some (.nilFunc) := by kernel_rfl
theorem inf139 : Inf Proofs.Try.prog 139 (.nilFunc) 1 8 := by unfold Inf; kernel_rfl
theorem one140 : isOne Proofs.Try.prog 140 = true := by kernel_rfl
theorem sl140 : isSl Proofs.Try.prog 140 = true := by kernel_rfl
theorem sle140 : slElem Proofs.Try.prog 140 = some 4 := by kernel_rfl
theorem und140 : (Proofs.Try.prog.underlying 140).isSome = true := by kernel_rfl
theorem sz140 : (Proofs.Try.prog.info? 140).map (·.size) = some 1 := by kernel_rfl
theorem zero140 : zeroOf Proofs.Try.prog 140 = some (.slice none 0 0) := by kernel_rfl
theorem inf140 : Inf Proofs.Try.prog 140 (.slice none 0 0) 1 24 := by unfold Inf; kernel_rfl
theorem agg141 : aggSize Proofs.Try.prog 141 = some 2 := by kernel_rfl
theorem und141 : (Proofs.Try.prog.underlying 141).isSome = true := by kernel_rfl
theorem sz141 : (Proofs.Try.prog.info? 141).map (·.size) = some 2 := by kernel_rfl
theorem zero141 : zeroOf Proofs.Try.prog 141 = some (.agg #[.slice none 0 0, .slice none 0 0]) := by kernel_rfl
theorem inf141 : Inf Proofs.Try.prog 141 (.agg #[.slice none 0 0, .slice none 0 0]) 2 48 := by unfold Inf; kernel_rfl
theorem fo141_0 : fieldOff Proofs.Try.prog 141 0 = some 0 := by kernel_rfl
theorem fv141_0 : fieldOne Proofs.Try.prog 141 0 = some 0 := by kernel_rfl
theorem fo141_1 : fieldOff Proofs.Try.prog 141 1 = some 1 := by kernel_rfl
theorem fv141_1 : fieldOne Proofs.Try.prog 141 1 = some 1 := by kernel_rfl
theorem agg142 : aggSize Proofs.Try.prog 142 = some 2 := by kernel_rfl
theorem und142 : (Proofs.Try.prog.underlying 142).isSome = true := by kernel_rfl
theorem sz142 : (Proofs.Try.prog.info? 142).map (·.size) = some 2 := by kernel_rfl
theorem zero142 : zeroOf Proofs.Try.prog 142 = some (.agg #[.slice none 0 0, .slice none 0 0]) := by kernel_rfl
theorem inf142 : Inf Proofs.Try.prog 142 (.agg #[.slice none 0 0, .slice none 0 0]) 2 48 := by unfold Inf; kernel_rfl
theorem fo142_0 : fieldOff Proofs.Try.prog 142 0 = some 0 := by kernel_rfl
theorem fv142_0 : fieldOne Proofs.Try.prog 142 0 = some 0 := by kernel_rfl
theorem fo142_1 : fieldOff Proofs.Try.prog 142 1 = some 1 := by kernel_rfl
theorem fv142_1 : fieldOne Proofs.Try.prog 142 1 = some 1 := by kernel_rfl
theorem one143 : isOne Proofs.Try.prog 143 = true := by kernel_rfl
theorem sz143 : (Proofs.Try.prog.info? 143).map (·.size) = some 1 := by kernel_rfl
theorem zero143 : zeroOf Proofs.Try.prog 143 = some (.nilFunc) := by kernel_rfl
theorem inf143 : Inf Proofs.Try.prog 143 (.nilFunc) 1 8 := by unfold Inf; kernel_rfl
theorem one144 : isOne Proofs.Try.prog 144 = true := by kernel_rfl
theorem sz144 : (Proofs.Try.prog.info? 144).map (·.size) = some 1 := by kernel_rfl
theorem zero144 : zeroOf Proofs.Try.prog 144 = some (.nilFunc) := by kernel_rfl
theorem inf144 : Inf Proofs.Try.prog 144 (.nilFunc) 1 8 := by unfold Inf; kernel_rfl
theorem one145 : isOne Proofs.Try.prog 145 = true := by kernel_rfl
theorem ptr145 : isPtr Proofs.Try.prog 145 = true := by kernel_rfl
theorem sz145 : (Proofs.Try.prog.info? 145).map (·.size) = some 1 := by kernel_rfl
theorem zero145 : zeroOf Proofs.Try.prog 145 = some (.pointer none) := by kernel_rfl
theorem inf145 : Inf Proofs.Try.prog 145 (.pointer none) 1 8 := by unfold Inf; kernel_rfl
theorem one146 : isOne Proofs.Try.prog 146 = true := by kernel_rfl
theorem sz146 : (Proofs.Try.prog.info? 146).map (·.size) = some 1 := by kernel_rfl
theorem zero146 : zeroOf Proofs.Try.prog 146 = some (.nilFunc) := by kernel_rfl
theorem inf146 : Inf Proofs.Try.prog 146 (.nilFunc) 1 8 := by unfold Inf; kernel_rfl
theorem one147 : isOne Proofs.Try.prog 147 = true := by kernel_rfl
theorem sz147 : (Proofs.Try.prog.info? 147).map (·.size) = some 1 := by kernel_rfl
theorem zero147 : zeroOf Proofs.Try.prog 147 = some (.nilFunc) := by kernel_rfl
theorem inf147 : Inf Proofs.Try.prog 147 (.nilFunc) 1 8 := by unfold Inf; kernel_rfl
theorem one148 : isOne Proofs.Try.prog 148 = true := by kernel_rfl
theorem sz148 : (Proofs.Try.prog.info? 148).map (·.size) = some 1 := by kernel_rfl
theorem zero148 : zeroOf Proofs.Try.prog 148 = some (.nilFunc) := by kernel_rfl
theorem inf148 : Inf Proofs.Try.prog 148 (.nilFunc) 1 8 := by unfold Inf; kernel_rfl
theorem one149 : isOne Proofs.Try.prog 149 = true := by kernel_rfl
theorem sz149 : (Proofs.Try.prog.info? 149).map (·.size) = some 1 := by kernel_rfl
theorem zero149 : zeroOf Proofs.Try.prog 149 = some (.nilFunc) := by kernel_rfl
theorem inf149 : Inf Proofs.Try.prog 149 (.nilFunc) 1 8 := by unfold Inf; kernel_rfl
theorem one150 : isOne Proofs.Try.prog 150 = true := by kernel_rfl
theorem sz150 : (Proofs.Try.prog.info? 150).map (·.size) = some 1 := by kernel_rfl
theorem zero150 : zeroOf Proofs.Try.prog 150 = some (.nilFunc) := by kernel_rfl
theorem inf150 : Inf Proofs.Try.prog 150 (.nilFunc) 1 8 := by unfold Inf; kernel_rfl
theorem one151 : isOne Proofs.Try.prog 151 = true := by kernel_rfl
theorem sl151 : isSl Proofs.Try.prog 151 = true := by kernel_rfl
theorem sle151 : slElem Proofs.Try.prog 151 = some 6 := by kernel_rfl
theorem und151 : (Proofs.Try.prog.underlying 151).isSome = true := by kernel_rfl
theorem sz151 : (Proofs.Try.prog.info? 151).map (·.size) = some 1 := by kernel_rfl
theorem zero151 : zeroOf Proofs.Try.prog 151 = some (.slice none 0 0) := by kernel_rfl
theorem inf151 : Inf Proofs.Try.prog 151 (.slice none 0 0) 1 24 := by unfold Inf; kernel_rfl
theorem agg152 : aggSize Proofs.Try.prog 152 = some 2 := by kernel_rfl
theorem und152 : (Proofs.Try.prog.underlying 152).isSome = true := by kernel_rfl
theorem sz152 : (Proofs.Try.prog.info? 152).map (·.size) = some 2 := by kernel_rfl
theorem zero152 : zeroOf Proofs.Try.prog 152 = some (.agg #[.slice none 0 0, .slice none 0 0]) := by kernel_rfl
theorem inf152 : Inf Proofs.Try.prog 152 (.agg #[.slice none 0 0, .slice none 0 0]) 2 48 := by unfold Inf; kernel_rfl
theorem fo152_0 : fieldOff Proofs.Try.prog 152 0 = some 0 := by kernel_rfl
theorem fo152_1 : fieldOff Proofs.Try.prog 152 1 = some 1 := by kernel_rfl
theorem fv152_1 : fieldOne Proofs.Try.prog 152 1 = some 1 := by kernel_rfl
theorem agg153 : aggSize Proofs.Try.prog 153 = some 2 := by kernel_rfl
theorem und153 : (Proofs.Try.prog.underlying 153).isSome = true := by kernel_rfl
theorem sz153 : (Proofs.Try.prog.info? 153).map (·.size) = some 2 := by kernel_rfl
theorem zero153 : zeroOf Proofs.Try.prog 153 = some (.agg #[.slice none 0 0, .slice none 0 0]) := by kernel_rfl
theorem inf153 : Inf Proofs.Try.prog 153 (.agg #[.slice none 0 0, .slice none 0 0]) 2 48 := by unfold Inf; kernel_rfl
theorem fo153_0 : fieldOff Proofs.Try.prog 153 0 = some 0 := by kernel_rfl
theorem fo153_1 : fieldOff Proofs.Try.prog 153 1 = some 1 := by kernel_rfl
theorem fv153_1 : fieldOne Proofs.Try.prog 153 1 = some 1 := by kernel_rfl
theorem agg154 : aggSize Proofs.Try.prog 154 = some 6 := by kernel_rfl
theorem und154 : (Proofs.Try.prog.underlying 154).isSome = true := by kernel_rfl
theorem sz154 : (Proofs.Try.prog.info? 154).map (·.size) = some 6 := by kernel_rfl
theorem zero154 : zeroOf Proofs.Try.prog 154 = some (.agg #[.int .u8 0, .int .i64 0, .int .i64 0, .int .i64 0, .int .i64 0, .bool false]) := by kernel_rfl
theorem inf154 : Inf Proofs.Try.prog 154 (.agg #[.int .u8 0, .int .i64 0, .int .i64 0, .int .i64 0, .int .i64 0, .bool false]) 6 48 := by unfold Inf; kernel_rfl
theorem fo154_0 : fieldOff Proofs.Try.prog 154 0 = some 0 := by kernel_rfl
theorem fv154_0 : fieldOne Proofs.Try.prog 154 0 = some 0 := by kernel_rfl
theorem fo154_1 : fieldOff Proofs.Try.prog 154 1 = some 1 := by kernel_rfl
theorem fv154_1 : fieldOne Proofs.Try.prog 154 1 = some 1 := by kernel_rfl
theorem fo154_2 : fieldOff Proofs.Try.prog 154 2 = some 2 := by kernel_rfl
theorem fv154_2 : fieldOne Proofs.Try.prog 154 2 = some 2 := by kernel_rfl
theorem fo154_3 : fieldOff Proofs.Try.prog 154 3 = some 3 := by kernel_rfl
theorem fv154_3 : fieldOne Proofs.Try.prog 154 3 = some 3 := by kernel_rfl
theorem fo154_4 : fieldOff Proofs.Try.prog 154 4 = some 4 := by kernel_rfl
theorem fv154_4 : fieldOne Proofs.Try.prog 154 4 = some 4 := by kernel_rfl
theorem fo154_5 : fieldOff Proofs.Try.prog 154 5 = some 5 := by kernel_rfl
theorem fv154_5 : fieldOne Proofs.Try.prog 154 5 = some 5 := by kernel_rfl
theorem one155 : isOne Proofs.Try.prog 155 = true := by kernel_rfl
theorem sz155 : (Proofs.Try.prog.info? 155).map (·.size) = some 1 := by kernel_rfl
theorem zero155 : zeroOf Proofs.Try.prog 155 = some (.nilFunc) := by kernel_rfl
theorem inf155 : Inf Proofs.Try.prog 155 (.nilFunc) 1 8 := by unfold Inf; kernel_rfl
theorem one156 : isOne Proofs.Try.prog 156 = true := by kernel_rfl
theorem sz156 : (Proofs.Try.prog.info? 156).map (·.size) = some 1 := by kernel_rfl
theorem zero156 : zeroOf Proofs.Try.prog 156 = some (.nilFunc) := by kernel_rfl
theorem inf156 : Inf Proofs.Try.prog 156 (.nilFunc) 1 8 := by unfold Inf; kernel_rfl
theorem one157 : isOne Proofs.Try.prog 157 = true := by kernel_rfl
theorem sz157 : (Proofs.Try.prog.info? 157).map (·.size) = some 1 := by kernel_rfl
theorem zero157 : zeroOf Proofs.Try.prog 157 = some (.nilFunc) := by kernel_rfl
theorem inf157 : Inf Proofs.Try.prog 157 (.nilFunc) 1 8 := by unfold Inf; kernel_rfl
theorem one158 : isOne Proofs.Try.prog 158 = true := by kernel_rfl
theorem sz158 : (Proofs.Try.prog.info? 158).map (·.size) = some 1 := by kernel_rfl
theorem zero158 : zeroOf Proofs.Try.prog 158 = some (.nilFunc) := by kernel_rfl
theorem inf158 : Inf Proofs.Try.prog 158 (.nilFunc) 1 8 := by unfold Inf; kernel_rfl
theorem agg159 : aggSize Proofs.Try.prog 159 = some 4 := by kernel_rfl
theorem und159 : (Proofs.Try.prog.underlying 159).isSome = true := by kernel_rfl
theorem sz159 : (Proofs.Try.prog.info? 159).map (·.size) = some 4 := by kernel_rfl
theorem zero159 : zeroOf Proofs.Try.prog 159 = some (.agg #[.slice none 0 0, .int .i64 0, .int .i64 0, .bool false]) := by kernel_rfl
theorem inf159 : Inf Proofs.Try.prog 159 (.agg #[.slice none 0 0, .int .i64 0, .int .i64 0, .bool false]) 4 48 := by unfold Inf; kernel_rfl
theorem fo159_0 : fieldOff Proofs.Try.prog 159 0 = some 0 := by kernel_rfl
theorem fv159_0 : fieldOne Proofs.Try.prog 159 0 = some 0 := by kernel_rfl
theorem fo159_1 : fieldOff Proofs.Try.prog 159 1 = some 1 := by kernel_rfl
theorem fv159_1 : fieldOne Proofs.Try.prog 159 1 = some 1 := by kernel_rfl
theorem fo159_2 : fieldOff Proofs.Try.prog 159 2 = some 2 := by kernel_rfl
theorem fv159_2 : fieldOne Proofs.Try.prog 159 2 = some 2 := by kernel_rfl
theorem fo159_3 : fieldOff Proofs.Try.prog 159 3 = some 3 := by kernel_rfl
theorem fv159_3 : fieldOne Proofs.Try.prog 159 3 = some 3 := by kernel_rfl
theorem agg160 : aggSize Proofs.Try.prog 160 = some 4 := by kernel_rfl
theorem und160 : (Proofs.Try.prog.underlying 160).isSome = true := by kernel_rfl
theorem sz160 : (Proofs.Try.prog.info? 160).map (·.size) = some 4 := by kernel_rfl
theorem zero160 : zeroOf Proofs.Try.prog 160 = some (.agg #[.slice none 0 0, .int .i64 0, .int .i64 0, .bool false]) := by kernel_rfl
theorem inf160 : Inf Proofs.Try.prog 160 (.agg #[.slice none 0 0, .int .i64 0, .int .i64 0, .bool false]) 4 48 := by unfold Inf; kernel_rfl
theorem fo160_0 : fieldOff Proofs.Try.prog 160 0 = some 0 := by kernel_rfl
theorem fv160_0 : fieldOne Proofs.Try.prog 160 0 = some 0 := by kernel_rfl
theorem fo160_1 : fieldOff Proofs.Try.prog 160 1 = some 1 := by kernel_rfl
theorem fv160_1 : fieldOne Proofs.Try.prog 160 1 = some 1 := by kernel_rfl
theorem fo160_2 : fieldOff Proofs.Try.prog 160 2 = some 2 := by kernel_rfl
theorem fv160_2 : fieldOne Proofs.Try.prog 160 2 = some 2 := by kernel_rfl
theorem fo160_3 : fieldOff Proofs.Try.prog 160 3 = some 3 := by kernel_rfl
theorem fv160_3 : fieldOne Proofs.Try.prog 160 3 = some 3 := by kernel_rfl
theorem agg161 : aggSize Proofs.Try.prog 161 = some 5 := by kernel_rfl
theorem sz161 : (Proofs.Try.prog.info? 161).map (·.size) = some 5 := by kernel_rfl
theorem zero161 : zeroOf Proofs.Try.prog 161 = some (.agg #[.int .i64 0, .int .i64 0, .int .i64 0, .int .i64 0, .int .i64 0]) := by kernel_rfl
theorem inf161 : Inf Proofs.Try.prog 161 (.agg #[.int .i64 0, .int .i64 0, .int .i64 0, .int .i64 0, .int .i64 0]) 5 40 := by unfold Inf; kernel_rfl
theorem one162 : isOne Proofs.Try.prog 162 = true := by kernel_rfl
theorem sz162 : (Proofs.Try.prog.info? 162).map (·.size) = some 1 := by kernel_rfl
theorem zero162 : zeroOf Proofs.Try.prog 162 = some (.nilFunc) := by kernel_rfl
theorem inf162 : Inf Proofs.Try.prog 162 (.nilFunc) 1 8 := by unfold Inf; kernel_rfl
theorem one163 : isOne Proofs.Try.prog 163 = true := by kernel_rfl
theorem sz163 : (Proofs.Try.prog.info? 163).map (·.size) = some 1 := by kernel_rfl
theorem zero163 : zeroOf Proofs.Try.prog 163 = some (.map none) := by kernel_rfl
theorem inf163 : Inf Proofs.Try.prog 163 (.map none) 1 8 := by unfold Inf; kernel_rfl
theorem agg164 : aggSize Proofs.Try.prog 164 = some 2 := by kernel_rfl
theorem und164 : (Proofs.Try.prog.underlying 164).isSome = true := by kernel_rfl
theorem sz164 : (Proofs.Try.prog.info? 164).map (·.size) = some 2 := by kernel_rfl
theorem zero164 : zeroOf Proofs.Try.prog 164 = some (.agg #[.int .i64 0, .map none]) := by kernel_rfl
theorem inf164 : Inf Proofs.Try.prog 164 (.agg #[.int .i64 0, .map none]) 2 16 := by unfold Inf; kernel_rfl
theorem fo164_0 : fieldOff Proofs.Try.prog 164 0 = some 0 := by kernel_rfl
theorem fv164_0 : fieldOne Proofs.Try.prog 164 0 = some 0 := by kernel_rfl
theorem fo164_1 : fieldOff Proofs.Try.prog 164 1 = some 1 := by kernel_rfl
theorem fv164_1 : fieldOne Proofs.Try.prog 164 1 = some 1 := by kernel_rfl
theorem agg165 : aggSize Proofs.Try.prog 165 = some 2 := by kernel_rfl
theorem und165 : (Proofs.Try.prog.underlying 165).isSome = true := by kernel_rfl
theorem sz165 : (Proofs.Try.prog.info? 165).map (·.size) = some 2 := by kernel_rfl
theorem zero165 : zeroOf Proofs.Try.prog 165 = some (.agg #[.int .i64 0, .map none]) := by kernel_rfl
theorem inf165 : Inf Proofs.Try.prog 165 (.agg #[.int .i64 0, .map none]) 2 16 := by unfold Inf; kernel_rfl
theorem fo165_0 : fieldOff Proofs.Try.prog 165 0 = some 0 := by kernel_rfl
theorem fv165_0 : fieldOne Proofs.Try.prog 165 0 = some 0 := by kernel_rfl
theorem fo165_1 : fieldOff Proofs.Try.prog 165 1 = some 1 := by kernel_rfl
theorem fv165_1 : fieldOne Proofs.Try.prog 165 1 = some 1 := by kernel_rfl
theorem one166 : isOne Proofs.Try.prog 166 = true := by kernel_rfl
theorem sz166 : (Proofs.Try.prog.info? 166).map (·.size) = some 1 := by kernel_rfl
theorem zero166 : zeroOf Proofs.Try.prog 166 = some (.nilFunc) := by kernel_rfl
theorem inf166 : Inf Proofs.Try.prog 166 (.nilFunc) 1 8 := by unfold Inf; kernel_rfl
theorem one167 : isOne Proofs.Try.prog 167 = true := by kernel_rfl
theorem sz167 : (Proofs.Try.prog.info? 167).map (·.size) = some 1 := by kernel_rfl
theorem zero167 : zeroOf Proofs.Try.prog 167 = some (.nilFunc) := by kernel_rfl
theorem inf167 : Inf Proofs.Try.prog 167 (.nilFunc) 1 8 := by unfold Inf; kernel_rfl
theorem one168 : isOne Proofs.Try.prog 168 = true := by kernel_rfl
theorem sz168 : (Proofs.Try.prog.info? 168).map (·.size) = some 1 := by kernel_rfl
theorem zero168 : zeroOf Proofs.Try.prog 168 = some (.nilFunc) := by kernel_rfl
theorem inf168 : Inf Proofs.Try.prog 168 (.nilFunc) 1 8 := by unfold Inf; kernel_rfl
theorem sz169 : (Proofs.Try.prog.info? 169).map (·.size) = some 1 := by kernel_rfl
theorem zero169 : zeroOf Proofs.Try.prog 169 = some (.tuple #[.agg #[.int .i64 0, .int .i64 0, .int .i64 0, .int .i64 0], .bool false]) := by kernel_rfl
theorem inf169 : Inf Proofs.Try.prog 169 (.tuple #[.agg #[.int .i64 0, .int .i64 0, .int .i64 0, .int .i64 0], .bool false]) 1 0 := by unfold Inf; kernel_rfl
theorem one170 : isOne Proofs.Try.prog 170 = true := by kernel_rfl
theorem sz170 : (Proofs.Try.prog.info? 170).map (·.size) = some 1 := by kernel_rfl
theorem zero170 : zeroOf Proofs.Try.prog 170 = some (.nilFunc) := by kernel_rfl
theorem inf170 : Inf Proofs.Try.prog 170 (.nilFunc) 1 8 := by unfold Inf; kernel_rfl
theorem agg171 : aggSize Proofs.Try.prog 171 = some 2 := by kernel_rfl
theorem und171 : (Proofs.Try.prog.underlying 171).isSome = true := by kernel_rfl
theorem sz171 : (Proofs.Try.prog.info? 171).map (·.size) = some 2 := by kernel_rfl
theorem zero171 : zeroOf Proofs.Try.prog 171 = some (.agg #[.int .i64 0, .int .i64 0]) := by kernel_rfl
theorem inf171 : Inf Proofs.Try.prog 171 (.agg #[.int .i64 0, .int .i64 0]) 2 16 := by unfold Inf; kernel_rfl
theorem fo171_0 : fieldOff Proofs.Try.prog 171 0 = some 0 := by kernel_rfl
theorem fv171_0 : fieldOne Proofs.Try.prog 171 0 = some 0 := by kernel_rfl
theorem fo171_1 : fieldOff Proofs.Try.prog 171 1 = some 1 := by kernel_rfl
theorem fv171_1 : fieldOne Proofs.Try.prog 171 1 = some 1 := by kernel_rfl
theorem agg172 : aggSize Proofs.Try.prog 172 = some 2 := by kernel_rfl
theorem und172 : (Proofs.Try.prog.underlying 172).isSome = true := by kernel_rfl
theorem sz172 : (Proofs.Try.prog.info? 172).map (·.size) = some 2 := by kernel_rfl
theorem zero172 : zeroOf Proofs.Try.prog 172 = some (.agg #[.int .i64 0, .int .i64 0]) := by kernel_rfl
theorem inf172 : Inf Proofs.Try.prog 172 (.agg #[.int .i64 0, .int .i64 0]) 2 16 := by unfold Inf; kernel_rfl
theorem fo172_0 : fieldOff Proofs.Try.prog 172 0 = some 0 := by kernel_rfl
theorem fv172_0 : fieldOne Proofs.Try.prog 172 0 = some 0 := by kernel_rfl
theorem fo172_1 : fieldOff Proofs.Try.prog 172 1 = some 1 := by kernel_rfl
theorem fv172_1 : fieldOne Proofs.Try.prog 172 1 = some 1 := by kernel_rfl
theorem one173 : isOne Proofs.Try.prog 173 = true := by kernel_rfl
theorem sz173 : (Proofs.Try.prog.info? 173).map (·.size) = some 1 := by kernel_rfl
theorem zero173 : zeroOf Proofs.Try.prog 173 = some (.nilFunc) := by kernel_rfl
theorem inf173 : Inf Proofs.Try.prog 173 (.nilFunc) 1 8 := by unfold Inf; kernel_rfl
theorem agg174 : aggSize Proofs.Try.prog 174 = some 2 := by kernel_rfl
theorem und174 : (Proofs.Try.prog.underlying 174).isSome = true := by kernel_rfl
theorem sz174 : (Proofs.Try.prog.info? 174).map (·.size) = some 2 := by kernel_rfl
theorem zero174 : zeroOf Proofs.Try.prog 174 = some (.agg #[.string ⟨#[]⟩, .int .i64 0]) := by kernel_rfl
theorem inf174 : Inf Proofs.Try.prog 174 (.agg #[.string ⟨#[]⟩, .int .i64 0]) 2 24 := by unfold Inf; kernel_rfl
theorem fo174_0 : fieldOff Proofs.Try.prog 174 0 = some 0 := by kernel_rfl
theorem fv174_0 : fieldOne Proofs.Try.prog 174 0 = some 0 := by kernel_rfl
theorem fo174_1 : fieldOff Proofs.Try.prog 174 1 = some 1 := by kernel_rfl
theorem fv174_1 : fieldOne Proofs.Try.prog 174 1 = some 1 := by kernel_rfl
theorem agg175 : aggSize Proofs.Try.prog 175 = some 2 := by kernel_rfl
theorem und175 : (Proofs.Try.prog.underlying 175).isSome = true := by kernel_rfl
theorem sz175 : (Proofs.Try.prog.info? 175).map (·.size) = some 2 := by kernel_rfl
theorem zero175 : zeroOf Proofs.Try.prog 175 = some (.agg #[.string ⟨#[]⟩, .int .i64 0]) := by kernel_rfl
theorem inf175 : Inf Proofs.Try.prog 175 (.agg #[.string ⟨#[]⟩, .int .i64 0]) 2 24 := by unfold Inf; kernel_rfl
theorem fo175_0 : fieldOff Proofs.Try.prog 175 0 = some 0 := by kernel_rfl
theorem fv175_0 : fieldOne Proofs.Try.prog 175 0 = some 0 := by kernel_rfl
theorem fo175_1 : fieldOff Proofs.Try.prog 175 1 = some 1 := by kernel_rfl
theorem fv175_1 : fieldOne Proofs.Try.prog 175 1 = some 1 := by kernel_rfl
theorem agg176 : aggSize Proofs.Try.prog 176 = some 2 := by kernel_rfl
theorem und176 : (Proofs.Try.prog.underlying 176).isSome = true := by kernel_rfl
theorem sz176 : (Proofs.Try.prog.info? 176).map (·.size) = some 2 := by kernel_rfl
theorem zero176 : zeroOf Proofs.Try.prog 176 = some (.agg #[.string ⟨#[]⟩, .int .i64 0]) := by kernel_rfl
theorem inf176 : Inf Proofs.Try.prog 176 (.agg #[.string ⟨#[]⟩, .int .i64 0]) 2 24 := by unfold Inf; kernel_rfl
theorem fo176_0 : fieldOff Proofs.Try.prog 176 0 = some 0 := by kernel_rfl
theorem agg177 : aggSize Proofs.Try.prog 177 = some 2 := by kernel_rfl
theorem und177 : (Proofs.Try.prog.underlying 177).isSome = true := by kernel_rfl
theorem sz177 : (Proofs.Try.prog.info? 177).map (·.size) = some 2 := by kernel_rfl
theorem zero177 : zeroOf Proofs.Try.prog 177 = some (.agg #[.string ⟨#[]⟩, .int .i64 0]) := by kernel_rfl
theorem inf177 : Inf Proofs.Try.prog 177 (.agg #[.string ⟨#[]⟩, .int .i64 0]) 2 24 := by unfold Inf; kernel_rfl
theorem fo177_0 : fieldOff Proofs.Try.prog 177 0 = some 0 := by kernel_rfl
theorem one178 : isOne Proofs.Try.prog 178 = true := by kernel_rfl
theorem sz178 : (Proofs.Try.prog.info? 178).map (·.size) = some 1 := by kernel_rfl
theorem zero178 : zeroOf Proofs.Try.prog 178 = some (.nilFunc) := by kernel_rfl
theorem inf178 : Inf Proofs.Try.prog 178 (.nilFunc) 1 8 := by unfold Inf; kernel_rfl
theorem sz179 : (Proofs.Try.prog.info? 179).map (·.size) = some 1 := by kernel_rfl
theorem zero179 : zeroOf Proofs.Try.prog 179 = some (.tuple #[.int .i64 0, .int .i64 0]) := by kernel_rfl
theorem inf179 : Inf Proofs.Try.prog 179 (.tuple #[.int .i64 0, .int .i64 0]) 1 0 := by unfold Inf; kernel_rfl
theorem one180 : isOne Proofs.Try.prog 180 = true := by kernel_rfl
theorem sz180 : (Proofs.Try.prog.info? 180).map (·.size) = some 1 := by kernel_rfl
theorem zero180 : zeroOf Proofs.Try.prog 180 = some (.nilFunc) := by kernel_rfl
theorem inf180 : Inf Proofs.Try.prog 180 (.nilFunc) 1 8 := by unfold Inf; kernel_rfl
theorem one181 : isOne Proofs.Try.prog 181 = true := by kernel_rfl
theorem sz181 : (Proofs.Try.prog.info? 181).map (·.size) = some 1 := by kernel_rfl
theorem zero181 : zeroOf Proofs.Try.prog 181 = some (.nilFunc) := by kernel_rfl
theorem inf181 : Inf Proofs.Try.prog 181 (.nilFunc) 1 8 := by unfold Inf; kernel_rfl
theorem one182 : isOne Proofs.Try.prog 182 = true := by kernel_rfl
theorem sz182 : (Proofs.Try.prog.info? 182).map (·.size) = some 1 := by kernel_rfl
theorem zero182 : zeroOf Proofs.Try.prog 182 = some (.nilFunc) := by kernel_rfl
theorem inf182 : Inf Proofs.Try.prog 182 (.nilFunc) 1 8 := by unfold Inf; kernel_rfl
theorem one183 : isOne Proofs.Try.prog 183 = true := by kernel_rfl
theorem sz183 : (Proofs.Try.prog.info? 183).map (·.size) = some 1 := by kernel_rfl
theorem zero183 : zeroOf Proofs.Try.prog 183 = some (.nilFunc) := by kernel_rfl
theorem inf183 : Inf Proofs.Try.prog 183 (.nilFunc) 1 8 := by unfold Inf; kernel_rfl
theorem agg184 : aggSize Proofs.Try.prog 184 = some 2 := by kernel_rfl
theorem und184 : (Proofs.Try.prog.underlying 184).isSome = true := by kernel_rfl
theorem sz184 : (Proofs.Try.prog.info? 184).map (·.size) = some 2 := by kernel_rfl
theorem zero184 : zeroOf Proofs.Try.prog 184 = some (.agg #[.slice none 0 0, .bool false]) := by kernel_rfl
theorem inf184 : Inf Proofs.Try.prog 184 (.agg #[.slice none 0 0, .bool false]) 2 32 := by unfold Inf; kernel_rfl
theorem fo184_0 : fieldOff Proofs.Try.prog 184 0 = some 0 := by kernel_rfl
theorem fv184_0 : fieldOne Proofs.Try.prog 184 0 = some 0 := by kernel_rfl
theorem fo184_1 : fieldOff Proofs.Try.prog 184 1 = some 1 := by kernel_rfl
theorem fv184_1 : fieldOne Proofs.Try.prog 184 1 = some 1 := by kernel_rfl
theorem agg185 : aggSize Proofs.Try.prog 185 = some 2 := by kernel_rfl
theorem und185 : (Proofs.Try.prog.underlying 185).isSome = true := by kernel_rfl
theorem sz185 : (Proofs.Try.prog.info? 185).map (·.size) = some 2 := by kernel_rfl
theorem zero185 : zeroOf Proofs.Try.prog 185 = some (.agg #[.slice none 0 0, .bool false]) := by kernel_rfl
theorem inf185 : Inf Proofs.Try.prog 185 (.agg #[.slice none 0 0, .bool false]) 2 32 := by unfold Inf; kernel_rfl
theorem fo185_0 : fieldOff Proofs.Try.prog 185 0 = some 0 := by kernel_rfl
theorem fv185_0 : fieldOne Proofs.Try.prog 185 0 = some 0 := by kernel_rfl
theorem fo185_1 : fieldOff Proofs.Try.prog 185 1 = some 1 := by kernel_rfl
theorem fv185_1 : fieldOne Proofs.Try.prog 185 1 = some 1 := by kernel_rfl
theorem one186 : isOne Proofs.Try.prog 186 = true := by kernel_rfl
theorem sz186 : (Proofs.Try.prog.info? 186).map (·.size) = some 1 := by kernel_rfl
theorem zero186 : zeroOf Proofs.Try.prog 186 = some (.nilFunc) := by kernel_rfl
theorem inf186 : Inf Proofs.Try.prog 186 (.nilFunc) 1 8 := by unfold Inf; kernel_rfl
theorem one187 : isOne Proofs.Try.prog 187 = true := by kernel_rfl
theorem sz187 : (Proofs.Try.prog.info? 187).map (·.size) = some 1 := by kernel_rfl
theorem zero187 : zeroOf Proofs.Try.prog 187 = some (.nilFunc) := by kernel_rfl
theorem inf187 : Inf Proofs.Try.prog 187 (.nilFunc) 1 8 := by unfold Inf; kernel_rfl
theorem one188 : isOne Proofs.Try.prog 188 = true := by kernel_rfl
theorem sz188 : (Proofs.Try.prog.info? 188).map (·.size) = some 1 := by kernel_rfl
theorem zero188 : zeroOf Proofs.Try.prog 188 = some (.nilFunc) := by kernel_rfl
theorem inf188 : Inf Proofs.Try.prog 188 (.nilFunc) 1 8 := by unfold Inf; kernel_rfl
theorem one189 : isOne Proofs.Try.prog 189 = true := by kernel_rfl
theorem und189 : (Proofs.Try.prog.underlying 189).isSome = true := by kernel_rfl
theorem sz189 : (Proofs.Try.prog.info? 189).map (·.size) = some 1 := by kernel_rfl
theorem zero189 : zeroOf Proofs.Try.prog 189 = some (.int .u64 0) := by kernel_rfl
theorem inf189 : Inf Proofs.Try.prog 189 (.int .u64 0) 1 8 := by unfold Inf; kernel_rfl
theorem one190 : isOne Proofs.Try.prog 190 = true := by kernel_rfl
theorem sz190 : (Proofs.Try.prog.info? 190).map (·.size) = some 1 := by kernel_rfl
theorem zero190 : zeroOf Proofs.Try.prog 190 = some (.nilFunc) := by kernel_rfl
theorem inf190 : Inf Proofs.Try.prog 190 (.nilFunc) 1 8 := by unfold Inf; kernel_rfl
theorem one191 : isOne Proofs.Try.prog 191 = true := by kernel_rfl
theorem sz191 : (Proofs.Try.prog.info? 191).map (·.size) = some 1 := by kernel_rfl
theorem zero191 : zeroOf Proofs.Try.prog 191 = some (.nilFunc) := by kernel_rfl
theorem inf191 : Inf Proofs.Try.prog 191 (.nilFunc) 1 8 := by unfold Inf; kernel_rfl
theorem one192 : isOne Proofs.Try.prog 192 = true := by kernel_rfl
theorem sz192 : (Proofs.Try.prog.info? 192).map (·.size) = some 1 := by kernel_rfl
theorem zero192 : zeroOf Proofs.Try.prog 192 = some (.nilFunc) := by kernel_rfl
theorem inf192 : Inf Proofs.Try.prog 192 (.nilFunc) 1 8 := by unfold Inf; kernel_rfl
theorem one193 : isOne Proofs.Try.prog 193 = true := by kernel_rfl
theorem sz193 : (Proofs.Try.prog.info? 193).map (·.size) = some 1 := by kernel_rfl
theorem zero193 : zeroOf Proofs.Try.prog 193 = some (.nilFunc) := by kernel_rfl
theorem inf193 : Inf Proofs.Try.prog 193 (.nilFunc) 1 8 := by unfold Inf; kernel_rfl
theorem one194 : isOne Proofs.Try.prog 194 = true := by kernel_rfl
theorem sz194 : (Proofs.Try.prog.info? 194).map (·.size) = some 1 := by kernel_rfl
theorem zero194 : zeroOf Proofs.Try.prog 194 = some (.nilFunc) := by kernel_rfl
theorem inf194 : Inf Proofs.Try.prog 194 (.nilFunc) 1 8 := by unfold Inf; kernel_rfl
theorem sz195 : (Proofs.Try.prog.info? 195).map (·.size) = some 1 := by kernel_rfl
theorem zero195 : zeroOf Proofs.Try.prog 195 = some (.tuple #[.bool false, .bool false]) := by kernel_rfl
theorem inf195 : Inf Proofs.Try.prog 195 (.tuple #[.bool false, .bool false]) 1 0 := by unfold Inf; kernel_rfl
theorem one196 : isOne Proofs.Try.prog 196 = true := by kernel_rfl
theorem sz196 : (Proofs.Try.prog.info? 196).map (·.size) = some 1 := by kernel_rfl
theorem zero196 : zeroOf Proofs.Try.prog 196 = some (.nilFunc) := by kernel_rfl
theorem inf196 : Inf Proofs.Try.prog 196 (.nilFunc) 1 8 := by unfold Inf; kernel_rfl
theorem one197 : isOne Proofs.Try.prog 197 = true := by kernel_rfl
theorem sz197 : (Proofs.Try.prog.info? 197).map (·.size) = some 1 := by kernel_rfl
theorem zero197 : zeroOf Proofs.Try.prog 197 = some (.nilFunc) := by kernel_rfl
theorem inf197 : Inf Proofs.Try.prog 197 (.nilFunc) 1 8 := by unfold Inf; kernel_rfl
theorem one198 : isOne Proofs.Try.prog 198 = true := by kernel_rfl
theorem sz198 : (Proofs.Try.prog.info? 198).map (·.size) = some 1 := by kernel_rfl
theorem zero198 : zeroOf Proofs.Try.prog 198 = some (.nilFunc) := by kernel_rfl
theorem inf198 : Inf Proofs.Try.prog 198 (.nilFunc) 1 8 := by unfold Inf; kernel_rfl
theorem one199 : isOne Proofs.Try.prog 199 = true := by kernel_rfl
theorem sz199 : (Proofs.Try.prog.info? 199).map (·.size) = some 1 := by kernel_rfl
theorem zero199 : zeroOf Proofs.Try.prog 199 = some (.nilFunc) := by kernel_rfl
theorem inf199 : Inf Proofs.Try.prog 199 (.nilFunc) 1 8 := by unfold Inf; kernel_rfl
theorem one200 : isOne Proofs.Try.prog 200 = true := by kernel_rfl
theorem sz200 : (Proofs.Try.prog.info? 200).map (·.size) = some 1 := by kernel_rfl
theorem zero200 : zeroOf Proofs.Try.prog 200 = some (.nilFunc) := by kernel_rfl
theorem inf200 : Inf Proofs.Try.prog 200 (.nilFunc) 1 8 := by unfold Inf; kernel_rfl
theorem one201 : isOne Proofs.Try.prog 201 = true := by kernel_rfl
theorem sz201 : (Proofs.Try.prog.info? 201).map (·.size) = some 1 := by kernel_rfl
theorem zero201 : zeroOf Proofs.Try.prog 201 = some (.nilFunc) := by kernel_rfl
theorem inf201 : Inf Proofs.Try.prog 201 (.nilFunc) 1 8 := by unfold Inf; kernel_rfl
theorem one202 : isOne Proofs.Try.prog 202 = true := by kernel_rfl
theorem sz202 : (Proofs.Try.prog.info? 202).map (·.size) = some 1 := by kernel_rfl
theorem zero202 : zeroOf Proofs.Try.prog 202 = some (.nilFunc) := by kernel_rfl
theorem inf202 : Inf Proofs.Try.prog 202 (.nilFunc) 1 8 := by unfold Inf; kernel_rfl
theorem one203 : isOne Proofs.Try.prog 203 = true := by kernel_rfl
theorem sz203 : (Proofs.Try.prog.info? 203).map (·.size) = some 1 := by kernel_rfl
theorem zero203 : zeroOf Proofs.Try.prog 203 = some (.nilFunc) := by kernel_rfl
theorem inf203 : Inf Proofs.Try.prog 203 (.nilFunc) 1 8 := by unfold Inf; kernel_rfl
theorem sz204 : (Proofs.Try.prog.info? 204).map (·.size) = some 1 := by kernel_rfl
theorem zero204 : zeroOf Proofs.Try.prog 204 = some (.tuple #[.int .u64 0, .int .i64 0]) := by kernel_rfl
theorem inf204 : Inf Proofs.Try.prog 204 (.tuple #[.int .u64 0, .int .i64 0]) 1 0 := by unfold Inf; kernel_rfl
theorem one205 : isOne Proofs.Try.prog 205 = true := by kernel_rfl
theorem sz205 : (Proofs.Try.prog.info? 205).map (·.size) = some 1 := by kernel_rfl
theorem zero205 : zeroOf Proofs.Try.prog 205 = some (.nilFunc) := by kernel_rfl
theorem inf205 : Inf Proofs.Try.prog 205 (.nilFunc) 1 8 := by unfold Inf; kernel_rfl
theorem sz206 : (Proofs.Try.prog.info? 206).map (·.size) = some 1 := by kernel_rfl
theorem zero206 : zeroOf Proofs.Try.prog 206 = some (.tuple #[.string ⟨#[]⟩, .int .i64 0]) := by kernel_rfl
theorem inf206 : Inf Proofs.Try.prog 206 (.tuple #[.string ⟨#[]⟩, .int .i64 0]) 1 0 := by unfold Inf; kernel_rfl
theorem one207 : isOne Proofs.Try.prog 207 = true := by kernel_rfl
theorem ptr207 : isPtr Proofs.Try.prog 207 = true := by kernel_rfl
theorem sz207 : (Proofs.Try.prog.info? 207).map (·.size) = some 1 := by kernel_rfl
theorem zero207 : zeroOf Proofs.Try.prog 207 = some (.pointer none) := by kernel_rfl
theorem inf207 : Inf Proofs.Try.prog 207 (.pointer none) 1 8 := by unfold Inf; kernel_rfl
theorem one208 : isOne Proofs.Try.prog 208 = true := by kernel_rfl
theorem sz208 : (Proofs.Try.prog.info? 208).map (·.size) = some 1 := by kernel_rfl
theorem zero208 : zeroOf Proofs.Try.prog 208 = some (.nilFunc) := by kernel_rfl
theorem inf208 : Inf Proofs.Try.prog 208 (.nilFunc) 1 8 := by unfold Inf; kernel_rfl
theorem one209 : isOne Proofs.Try.prog 209 = true := by kernel_rfl
theorem sz209 : (Proofs.Try.prog.info? 209).map (·.size) = some 1 := by kernel_rfl
theorem zero209 : zeroOf Proofs.Try.prog 209 = some (.nilFunc) := by kernel_rfl
theorem inf209 : Inf Proofs.Try.prog 209 (.nilFunc) 1 8 := by unfold Inf; kernel_rfl
theorem one210 : isOne Proofs.Try.prog 210 = true := by kernel_rfl
theorem sz210 : (Proofs.Try.prog.info? 210).map (·.size) = some 1 := by kernel_rfl
theorem zero210 : zeroOf Proofs.Try.prog 210 = some (.nilFunc) := by kernel_rfl
theorem inf210 : Inf Proofs.Try.prog 210 (.nilFunc) 1 8 := by unfold Inf; kernel_rfl
theorem one211 : isOne Proofs.Try.prog 211 = true := by kernel_rfl
theorem sz211 : (Proofs.Try.prog.info? 211).map (·.size) = some 1 := by kernel_rfl
theorem zero211 : zeroOf Proofs.Try.prog 211 = some (.nilFunc) := by kernel_rfl
theorem inf211 : Inf Proofs.Try.prog 211 (.nilFunc) 1 8 := by unfold Inf; kernel_rfl
theorem one212 : isOne Proofs.Try.prog 212 = true := by kernel_rfl
theorem sz212 : (Proofs.Try.prog.info? 212).map (·.size) = some 1 := by kernel_rfl
theorem zero212 : zeroOf Proofs.Try.prog 212 = some (.nilFunc) := by kernel_rfl
theorem inf212 : Inf Proofs.Try.prog 212 (.nilFunc) 1 8 := by unfold Inf; kernel_rfl
theorem one213 : isOne Proofs.Try.prog 213 = true := by kernel_rfl
theorem sz213 : (Proofs.Try.prog.info? 213).map (·.size) = some 1 := by kernel_rfl
theorem zero213 : zeroOf Proofs.Try.prog 213 = some (.nilFunc) := by kernel_rfl
theorem inf213 : Inf Proofs.Try.prog 213 (.nilFunc) 1 8 := by unfold Inf; kernel_rfl
theorem one214 : isOne Proofs.Try.prog 214 = true := by kernel_rfl
theorem sz214 : (Proofs.Try.prog.info? 214).map (·.size) = some 1 := by kernel_rfl
theorem zero214 : zeroOf Proofs.Try.prog 214 = some (.nilFunc) := by kernel_rfl
theorem inf214 : Inf Proofs.Try.prog 214 (.nilFunc) 1 8 := by unfold Inf; kernel_rfl
theorem one215 : isOne Proofs.Try.prog 215 = true := by kernel_rfl
theorem und215 : (Proofs.Try.prog.underlying 215).isSome = true := by kernel_rfl
theorem sz215 : (Proofs.Try.prog.info? 215).map (·.size) = some 1 := by kernel_rfl
theorem zero215 : zeroOf Proofs.Try.prog 215 = some (.int .i64 0) := by kernel_rfl
theorem inf215 : Inf Proofs.Try.prog 215 (.int .i64 0) 1 8 := by unfold Inf; kernel_rfl
theorem sz216 : (Proofs.Try.prog.info? 216).map (·.size) = some 1 := by kernel_rfl
theorem zero216 : zeroOf Proofs.Try.prog 216 = some (.tuple #[.int .i64 0, .int .i64 0]) := by kernel_rfl
theorem inf216 : Inf Proofs.Try.prog 216 (.tuple #[.int .i64 0, .int .i64 0]) 1 0 := by unfold Inf; kernel_rfl
theorem one217 : isOne Proofs.Try.prog 217 = true := by kernel_rfl
theorem sz217 : (Proofs.Try.prog.info? 217).map (·.size) = some 1 := by kernel_rfl
theorem zero217 : zeroOf Proofs.Try.prog 217 = some (.nilFunc) := by kernel_rfl
theorem inf217 : Inf Proofs.Try.prog 217 (.nilFunc) 1 8 := by unfold Inf; kernel_rfl
theorem one218 : isOne Proofs.Try.prog 218 = true := by kernel_rfl
theorem sz218 : (Proofs.Try.prog.info? 218).map (·.size) = some 1 := by kernel_rfl
theorem zero218 : zeroOf Proofs.Try.prog 218 = some (.nilFunc) := by kernel_rfl
theorem inf218 : Inf Proofs.Try.prog 218 (.nilFunc) 1 8 := by unfold Inf; kernel_rfl
theorem one219 : isOne Proofs.Try.prog 219 = true := by kernel_rfl
theorem sz219 : (Proofs.Try.prog.info? 219).map (·.size) = some 1 := by kernel_rfl
theorem zero219 : zeroOf Proofs.Try.prog 219 = some (.nilFunc) := by kernel_rfl
theorem inf219 : Inf Proofs.Try.prog 219 (.nilFunc) 1 8 := by unfold Inf; kernel_rfl
theorem one220 : isOne Proofs.Try.prog 220 = true := by kernel_rfl
theorem sz220 : (Proofs.Try.prog.info? 220).map (·.size) = some 1 := by kernel_rfl
theorem zero220 : zeroOf Proofs.Try.prog 220 = some (.nilFunc) := by kernel_rfl
theorem inf220 : Inf Proofs.Try.prog 220 (.nilFunc) 1 8 := by unfold Inf; kernel_rfl
theorem one221 : isOne Proofs.Try.prog 221 = true := by kernel_rfl
theorem sz221 : (Proofs.Try.prog.info? 221).map (·.size) = some 1 := by kernel_rfl
theorem zero221 : zeroOf Proofs.Try.prog 221 = some (.nilFunc) := by kernel_rfl
theorem inf221 : Inf Proofs.Try.prog 221 (.nilFunc) 1 8 := by unfold Inf; kernel_rfl
theorem one222 : isOne Proofs.Try.prog 222 = true := by kernel_rfl
theorem und222 : (Proofs.Try.prog.underlying 222).isSome = true := by kernel_rfl
theorem sz222 : (Proofs.Try.prog.info? 222).map (·.size) = some 1 := by kernel_rfl
theorem zero222 : zeroOf Proofs.Try.prog 222 = some (.int .u32 0) := by kernel_rfl
theorem inf222 : Inf Proofs.Try.prog 222 (.int .u32 0) 1 4 := by unfold Inf; kernel_rfl
theorem one223 : isOne Proofs.Try.prog 223 = true := by kernel_rfl
theorem und223 : (Proofs.Try.prog.underlying 223).isSome = true := by kernel_rfl
theorem sz223 : (Proofs.Try.prog.info? 223).map (·.size) = some 1 := by kernel_rfl
theorem zero223 : zeroOf Proofs.Try.prog 223 = some (.int .u64 0) := by kernel_rfl
theorem inf223 : Inf Proofs.Try.prog 223 (.int .u64 0) 1 8 := by unfold Inf; kernel_rfl
theorem one224 : isOne Proofs.Try.prog 224 = true := by kernel_rfl
theorem sz224 : (Proofs.Try.prog.info? 224).map (·.size) = some 1 := by kernel_rfl
theorem zero224 : zeroOf Proofs.Try.prog 224 = some (.nilFunc) := by kernel_rfl
theorem inf224 : Inf Proofs.Try.prog 224 (.nilFunc) 1 8 := by unfold Inf; kernel_rfl
theorem one225 : isOne Proofs.Try.prog 225 = true := by kernel_rfl
theorem sz225 : (Proofs.Try.prog.info? 225).map (·.size) = some 1 := by kernel_rfl
theorem zero225 : zeroOf Proofs.Try.prog 225 = some (.nilFunc) := by kernel_rfl
theorem inf225 : Inf Proofs.Try.prog 225 (.nilFunc) 1 8 := by unfold Inf; kernel_rfl
theorem one226 : isOne Proofs.Try.prog 226 = true := by kernel_rfl
theorem sz226 : (Proofs.Try.prog.info? 226).map (·.size) = some 1 := by kernel_rfl
theorem zero226 : zeroOf Proofs.Try.prog 226 = some (.nilFunc) := by kernel_rfl
theorem inf226 : Inf Proofs.Try.prog 226 (.nilFunc) 1 8 := by unfold Inf; kernel_rfl
theorem one227 : isOne Proofs.Try.prog 227 = true := by kernel_rfl
theorem ptr227 : isPtr Proofs.Try.prog 227 = true := by kernel_rfl
theorem sz227 : (Proofs.Try.prog.info? 227).map (·.size) = some 1 := by kernel_rfl
theorem zero227 : zeroOf Proofs.Try.prog 227 = some (.pointer none) := by kernel_rfl
theorem inf227 : Inf Proofs.Try.prog 227 (.pointer none) 1 8 := by unfold Inf; kernel_rfl
theorem one228 : isOne Proofs.Try.prog 228 = true := by kernel_rfl
theorem sz228 : (Proofs.Try.prog.info? 228).map (·.size) = some 1 := by kernel_rfl
theorem zero228 : zeroOf Proofs.Try.prog 228 = some (.nilFunc) := by kernel_rfl
theorem inf228 : Inf Proofs.Try.prog 228 (.nilFunc) 1 8 := by unfold Inf; kernel_rfl
theorem one229 : isOne Proofs.Try.prog 229 = true := by kernel_rfl
theorem ptr229 : isPtr Proofs.Try.prog 229 = true := by kernel_rfl
theorem sz229 : (Proofs.Try.prog.info? 229).map (·.size) = some 1 := by kernel_rfl
theorem zero229 : zeroOf Proofs.Try.prog 229 = some (.pointer none) := by kernel_rfl
theorem inf229 : Inf Proofs.Try.prog 229 (.pointer none) 1 8 := by unfold Inf; kernel_rfl
theorem one230 : isOne Proofs.Try.prog 230 = true := by kernel_rfl
theorem sz230 : (Proofs.Try.prog.info? 230).map (·.size) = some 1 := by kernel_rfl
theorem zero230 : zeroOf Proofs.Try.prog 230 = some (.nilFunc) := by kernel_rfl
theorem inf230 : Inf Proofs.Try.prog 230 (.nilFunc) 1 8 := by unfold Inf; kernel_rfl
theorem agg231 : aggSize Proofs.Try.prog 231 = some 4 := by kernel_rfl
theorem und231 : (Proofs.Try.prog.underlying 231).isSome = true := by kernel_rfl
theorem sz231 : (Proofs.Try.prog.info? 231).map (·.size) = some 4 := by kernel_rfl
theorem zero231 : zeroOf Proofs.Try.prog 231 = some (.agg #[.pointer none, .pointer none, .pointer none, .string ⟨#[]⟩]) := by kernel_rfl
theorem inf231 : Inf Proofs.Try.prog 231 (.agg #[.pointer none, .pointer none, .pointer none, .string ⟨#[]⟩]) 4 40 := by unfold Inf; kernel_rfl
theorem fo231_0 : fieldOff Proofs.Try.prog 231 0 = some 0 := by kernel_rfl
theorem fv231_0 : fieldOne Proofs.Try.prog 231 0 = some 0 := by kernel_rfl
theorem fo231_1 : fieldOff Proofs.Try.prog 231 1 = some 1 := by kernel_rfl
theorem fv231_1 : fieldOne Proofs.Try.prog 231 1 = some 1 := by kernel_rfl
theorem fo231_2 : fieldOff Proofs.Try.prog 231 2 = some 2 := by kernel_rfl
theorem fv231_2 : fieldOne Proofs.Try.prog 231 2 = some 2 := by kernel_rfl
theorem fo231_3 : fieldOff Proofs.Try.prog 231 3 = some 3 := by kernel_rfl
theorem fv231_3 : fieldOne Proofs.Try.prog 231 3 = some 3 := by kernel_rfl
theorem agg232 : aggSize Proofs.Try.prog 232 = some 4 := by kernel_rfl
theorem und232 : (Proofs.Try.prog.underlying 232).isSome = true := by kernel_rfl
theorem sz232 : (Proofs.Try.prog.info? 232).map (·.size) = some 4 := by kernel_rfl
theorem zero232 : zeroOf Proofs.Try.prog 232 = some (.agg #[.pointer none, .pointer none, .pointer none, .string ⟨#[]⟩]) := by kernel_rfl
theorem inf232 : Inf Proofs.Try.prog 232 (.agg #[.pointer none, .pointer none, .pointer none, .string ⟨#[]⟩]) 4 40 := by unfold Inf; kernel_rfl
theorem fo232_0 : fieldOff Proofs.Try.prog 232 0 = some 0 := by kernel_rfl
theorem fv232_0 : fieldOne Proofs.Try.prog 232 0 = some 0 := by kernel_rfl
theorem fo232_1 : fieldOff Proofs.Try.prog 232 1 = some 1 := by kernel_rfl
theorem fv232_1 : fieldOne Proofs.Try.prog 232 1 = some 1 := by kernel_rfl
theorem fo232_2 : fieldOff Proofs.Try.prog 232 2 = some 2 := by kernel_rfl
theorem fv232_2 : fieldOne Proofs.Try.prog 232 2 = some 2 := by kernel_rfl
theorem fo232_3 : fieldOff Proofs.Try.prog 232 3 = some 3 := by kernel_rfl
theorem fv232_3 : fieldOne Proofs.Try.prog 232 3 = some 3 := by kernel_rfl
theorem agg233 : aggSize Proofs.Try.prog 233 = some 0 := by kernel_rfl
theorem sz233 : (Proofs.Try.prog.info? 233).map (·.size) = some 0 := by kernel_rfl
theorem zero233 : zeroOf Proofs.Try.prog 233 = some (.agg #[]) := by kernel_rfl
theorem inf233 : Inf Proofs.Try.prog 233 (.agg #[]) 0 0 := by unfold Inf; kernel_rfl
theorem agg234 : aggSize Proofs.Try.prog 234 = some 0 := by kernel_rfl
theorem und234 : (Proofs.Try.prog.underlying 234).isSome = true := by kernel_rfl
theorem sz234 : (Proofs.Try.prog.info? 234).map (·.size) = some 0 := by kernel_rfl
theorem zero234 : zeroOf Proofs.Try.prog 234 = some (.agg #[]) := by kernel_rfl
theorem inf234 : Inf Proofs.Try.prog 234 (.agg #[]) 0 0 := by unfold Inf; kernel_rfl
theorem agg235 : aggSize Proofs.Try.prog 235 = some 0 := by kernel_rfl
theorem und235 : (Proofs.Try.prog.underlying 235).isSome = true := by kernel_rfl
theorem sz235 : (Proofs.Try.prog.info? 235).map (·.size) = some 0 := by kernel_rfl
theorem zero235 : zeroOf Proofs.Try.prog 235 = some (.agg #[]) := by kernel_rfl
theorem inf235 : Inf Proofs.Try.prog 235 (.agg #[]) 0 0 := by unfold Inf; kernel_rfl
theorem one236 : isOne Proofs.Try.prog 236 = true := by kernel_rfl
theorem und236 : (Proofs.Try.prog.underlying 236).isSome = true := by kernel_rfl
theorem sz236 : (Proofs.Try.prog.info? 236).map (·.size) = some 1 := by kernel_rfl
theorem zero236 : zeroOf Proofs.Try.prog 236 = some (.int .u8 0) := by kernel_rfl
theorem inf236 : Inf Proofs.Try.prog 236 (.int .u8 0) 1 1 := by unfold Inf; kernel_rfl
theorem one237 : isOne Proofs.Try.prog 237 = true := by kernel_rfl
theorem und237 : (Proofs.Try.prog.underlying 237).isSome = true := by kernel_rfl
theorem sz237 : (Proofs.Try.prog.info? 237).map (·.size) = some 1 := by kernel_rfl
theorem zero237 : zeroOf Proofs.Try.prog 237 = some (.int .u8 0) := by kernel_rfl
theorem inf237 : Inf Proofs.Try.prog 237 (.int .u8 0) 1 1 := by unfold Inf; kernel_rfl
theorem one238 : isOne Proofs.Try.prog 238 = true := by kernel_rfl
theorem sz238 : (Proofs.Try.prog.info? 238).map (·.size) = some 1 := by kernel_rfl
theorem zero238 : zeroOf Proofs.Try.prog 238 = some (.nilFunc) := by kernel_rfl
theorem inf238 : Inf Proofs.Try.prog 238 (.nilFunc) 1 8 := by unfold Inf; kernel_rfl
theorem one239 : isOne Proofs.Try.prog 239 = true := by kernel_rfl
theorem ptr239 : isPtr Proofs.Try.prog 239 = true := by kernel_rfl
theorem sz239 : (Proofs.Try.prog.info? 239).map (·.size) = some 1 := by kernel_rfl
theorem zero239 : zeroOf Proofs.Try.prog 239 = some (.pointer none) := by kernel_rfl
theorem inf239 : Inf Proofs.Try.prog 239 (.pointer none) 1 8 := by unfold Inf; kernel_rfl
theorem one240 : isOne Proofs.Try.prog 240 = true := by kernel_rfl
theorem und240 : (Proofs.Try.prog.underlying 240).isSome = true := by kernel_rfl
theorem sz240 : (Proofs.Try.prog.info? 240).map (·.size) = some 1 := by kernel_rfl
theorem zero240 : zeroOf Proofs.Try.prog 240 = some (.int .i32 0) := by kernel_rfl
theorem inf240 : Inf Proofs.Try.prog 240 (.int .i32 0) 1 4 := by unfold Inf; kernel_rfl
theorem one241 : isOne Proofs.Try.prog 241 = true := by kernel_rfl
theorem und241 : (Proofs.Try.prog.underlying 241).isSome = true := by kernel_rfl
theorem sz241 : (Proofs.Try.prog.info? 241).map (·.size) = some 1 := by kernel_rfl
theorem zero241 : zeroOf Proofs.Try.prog 241 = some (.int .i32 0) := by kernel_rfl
theorem inf241 : Inf Proofs.Try.prog 241 (.int .i32 0) 1 4 := by unfold Inf; kernel_rfl
theorem agg242 : aggSize Proofs.Try.prog 242 = some 11 := by kernel_rfl
theorem und242 : (Proofs.Try.prog.underlying 242).isSome = true := by kernel_rfl
theorem sz242 : (Proofs.Try.prog.info? 242).map (·.size) = some 11 := by kernel_rfl
theorem zero242 : zeroOf Proofs.Try.prog 242 = some (.agg #[.int .u64 0, .int .u64 0, .int .u32 0, .int .u8 0, .int .u8 0, .int .u8 0, .int .u8 0, .nilFunc, .pointer none, .int .i32 0, .int .i32 0]) := by kernel_rfl
theorem inf242 : Inf Proofs.Try.prog 242 (.agg #[.int .u64 0, .int .u64 0, .int .u32 0, .int .u8 0, .int .u8 0, .int .u8 0, .int .u8 0, .nilFunc, .pointer none, .int .i32 0, .int .i32 0]) 11 48 := by unfold Inf; kernel_rfl
theorem fo242_0 : fieldOff Proofs.Try.prog 242 0 = some 0 := by kernel_rfl
theorem fv242_0 : fieldOne Proofs.Try.prog 242 0 = some 0 := by kernel_rfl
theorem fo242_1 : fieldOff Proofs.Try.prog 242 1 = some 1 := by kernel_rfl
theorem fv242_1 : fieldOne Proofs.Try.prog 242 1 = some 1 := by kernel_rfl
theorem fo242_2 : fieldOff Proofs.Try.prog 242 2 = some 2 := by kernel_rfl
theorem fv242_2 : fieldOne Proofs.Try.prog 242 2 = some 2 := by kernel_rfl
theorem fo242_3 : fieldOff Proofs.Try.prog 242 3 = some 3 := by kernel_rfl
theorem fv242_3 : fieldOne Proofs.Try.prog 242 3 = some 3 := by kernel_rfl
theorem fo242_4 : fieldOff Proofs.Try.prog 242 4 = some 4 := by kernel_rfl
theorem fv242_4 : fieldOne Proofs.Try.prog 242 4 = some 4 := by kernel_rfl
theorem fo242_5 : fieldOff Proofs.Try.prog 242 5 = some 5 := by kernel_rfl
theorem fv242_5 : fieldOne Proofs.Try.prog 242 5 = some 5 := by kernel_rfl
theorem fo242_6 : fieldOff Proofs.Try.prog 242 6 = some 6 := by kernel_rfl
theorem fv242_6 : fieldOne Proofs.Try.prog 242 6 = some 6 := by kernel_rfl
theorem fo242_7 : fieldOff Proofs.Try.prog 242 7 = some 7 := by kernel_rfl
theorem fv242_7 : fieldOne Proofs.Try.prog 242 7 = some 7 := by kernel_rfl
theorem fo242_8 : fieldOff Proofs.Try.prog 242 8 = some 8 := by kernel_rfl
theorem fv242_8 : fieldOne Proofs.Try.prog 242 8 = some 8 := by kernel_rfl
theorem fo242_9 : fieldOff Proofs.Try.prog 242 9 = some 9 := by kernel_rfl
theorem fv242_9 : fieldOne Proofs.Try.prog 242 9 = some 9 := by kernel_rfl
theorem fo242_10 : fieldOff Proofs.Try.prog 242 10 = some 10 := by kernel_rfl
theorem fv242_10 : fieldOne Proofs.Try.prog 242 10 = some 10 := by kernel_rfl
theorem agg243 : aggSize Proofs.Try.prog 243 = some 11 := by kernel_rfl
theorem und243 : (Proofs.Try.prog.underlying 243).isSome = true := by kernel_rfl
theorem sz243 : (Proofs.Try.prog.info? 243).map (·.size) = some 11 := by kernel_rfl
theorem zero243 : zeroOf Proofs.Try.prog 243 = some (.agg #[.int .u64 0, .int .u64 0, .int .u32 0, .int .u8 0, .int .u8 0, .int .u8 0, .int .u8 0, .nilFunc, .pointer none, .int .i32 0, .int .i32 0]) := by kernel_rfl
theorem inf243 : Inf Proofs.Try.prog 243 (.agg #[.int .u64 0, .int .u64 0, .int .u32 0, .int .u8 0, .int .u8 0, .int .u8 0, .int .u8 0, .nilFunc, .pointer none, .int .i32 0, .int .i32 0]) 11 48 := by unfold Inf; kernel_rfl
theorem fo243_0 : fieldOff Proofs.Try.prog 243 0 = some 0 := by kernel_rfl
theorem fv243_0 : fieldOne Proofs.Try.prog 243 0 = some 0 := by kernel_rfl
theorem fo243_1 : fieldOff Proofs.Try.prog 243 1 = some 1 := by kernel_rfl
theorem fv243_1 : fieldOne Proofs.Try.prog 243 1 = some 1 := by kernel_rfl
theorem fo243_2 : fieldOff Proofs.Try.prog 243 2 = some 2 := by kernel_rfl
theorem fv243_2 : fieldOne Proofs.Try.prog 243 2 = some 2 := by kernel_rfl
theorem fo243_3 : fieldOff Proofs.Try.prog 243 3 = some 3 := by kernel_rfl
theorem fv243_3 : fieldOne Proofs.Try.prog 243 3 = some 3 := by kernel_rfl
theorem fo243_4 : fieldOff Proofs.Try.prog 243 4 = some 4 := by kernel_rfl
theorem fv243_4 : fieldOne Proofs.Try.prog 243 4 = some 4 := by kernel_rfl
theorem fo243_5 : fieldOff Proofs.Try.prog 243 5 = some 5 := by kernel_rfl
theorem fv243_5 : fieldOne Proofs.Try.prog 243 5 = some 5 := by kernel_rfl
theorem fo243_6 : fieldOff Proofs.Try.prog 243 6 = some 6 := by kernel_rfl
theorem fv243_6 : fieldOne Proofs.Try.prog 243 6 = some 6 := by kernel_rfl
theorem fo243_7 : fieldOff Proofs.Try.prog 243 7 = some 7 := by kernel_rfl
theorem fv243_7 : fieldOne Proofs.Try.prog 243 7 = some 7 := by kernel_rfl
theorem fo243_8 : fieldOff Proofs.Try.prog 243 8 = some 8 := by kernel_rfl
theorem fv243_8 : fieldOne Proofs.Try.prog 243 8 = some 8 := by kernel_rfl
theorem fo243_9 : fieldOff Proofs.Try.prog 243 9 = some 9 := by kernel_rfl
theorem fv243_9 : fieldOne Proofs.Try.prog 243 9 = some 9 := by kernel_rfl
theorem fo243_10 : fieldOff Proofs.Try.prog 243 10 = some 10 := by kernel_rfl
theorem fv243_10 : fieldOne Proofs.Try.prog 243 10 = some 10 := by kernel_rfl
theorem agg244 : aggSize Proofs.Try.prog 244 = some 2 := by kernel_rfl
theorem und244 : (Proofs.Try.prog.underlying 244).isSome = true := by kernel_rfl
theorem sz244 : (Proofs.Try.prog.info? 244).map (·.size) = some 2 := by kernel_rfl
theorem zero244 : zeroOf Proofs.Try.prog 244 = some (.agg #[.string ⟨#[]⟩, .string ⟨#[]⟩]) := by kernel_rfl
theorem inf244 : Inf Proofs.Try.prog 244 (.agg #[.string ⟨#[]⟩, .string ⟨#[]⟩]) 2 32 := by unfold Inf; kernel_rfl
theorem fo244_0 : fieldOff Proofs.Try.prog 244 0 = some 0 := by kernel_rfl
theorem fv244_0 : fieldOne Proofs.Try.prog 244 0 = some 0 := by kernel_rfl
theorem fo244_1 : fieldOff Proofs.Try.prog 244 1 = some 1 := by kernel_rfl
theorem fv244_1 : fieldOne Proofs.Try.prog 244 1 = some 1 := by kernel_rfl
theorem agg245 : aggSize Proofs.Try.prog 245 = some 2 := by kernel_rfl
theorem und245 : (Proofs.Try.prog.underlying 245).isSome = true := by kernel_rfl
theorem sz245 : (Proofs.Try.prog.info? 245).map (·.size) = some 2 := by kernel_rfl
theorem zero245 : zeroOf Proofs.Try.prog 245 = some (.agg #[.string ⟨#[]⟩, .string ⟨#[]⟩]) := by kernel_rfl
theorem inf245 : Inf Proofs.Try.prog 245 (.agg #[.string ⟨#[]⟩, .string ⟨#[]⟩]) 2 32 := by unfold Inf; kernel_rfl
theorem fo245_0 : fieldOff Proofs.Try.prog 245 0 = some 0 := by kernel_rfl
theorem fv245_0 : fieldOne Proofs.Try.prog 245 0 = some 0 := by kernel_rfl
theorem fo245_1 : fieldOff Proofs.Try.prog 245 1 = some 1 := by kernel_rfl
theorem fv245_1 : fieldOne Proofs.Try.prog 245 1 = some 1 := by kernel_rfl
theorem one246 : isOne Proofs.Try.prog 246 = true := by kernel_rfl
theorem sz246 : (Proofs.Try.prog.info? 246).map (·.size) = some 1 := by kernel_rfl
theorem zero246 : zeroOf Proofs.Try.prog 246 = some (.pointer none) := by kernel_rfl
theorem inf246 : Inf Proofs.Try.prog 246 (.pointer none) 1 8 := by unfold Inf; kernel_rfl
theorem fl56 : flatKs Proofs.Try.prog 56 = some [.i .u8, .i .i64, .i .i64, .i .i64, .i .i64, .b] := by kernel_rfl
theorem fl114 : flatKs Proofs.Try.prog 114 = some [.i .i64, .i .i64, .i .i64, .i .i64] := by kernel_rfl
theorem fl130 : flatKs Proofs.Try.prog 130 = some [.s, .i .i64] := by kernel_rfl
theorem fl154 : flatKs Proofs.Try.prog 154 = some [.i .u8, .i .i64, .i .i64, .i .i64, .i .i64, .b] := by kernel_rfl
theorem fl172 : flatKs Proofs.Try.prog 172 = some [.i .i64, .i .i64] := by kernel_rfl
theorem ok2 : callOk Proofs.Try.prog 2 = true := by kernel_rfl
theorem ok3 : callOk Proofs.Try.prog 3 = true := by kernel_rfl
theorem ok4 : callOk Proofs.Try.prog 4 = true := by kernel_rfl
theorem ok5 : callOk Proofs.Try.prog 5 = true := by kernel_rfl
theorem ok6 : callOk Proofs.Try.prog 6 = true := by kernel_rfl
theorem ok7 : callOk Proofs.Try.prog 7 = true := by kernel_rfl
theorem ok8 : callOk Proofs.Try.prog 8 = true := by kernel_rfl
theorem ok9 : callOk Proofs.Try.prog 9 = true := by kernel_rfl
theorem ok10 : callOk Proofs.Try.prog 10 = true := by kernel_rfl
theorem ok11 : callOk Proofs.Try.prog 11 = true := by kernel_rfl
theorem ok12 : callOk Proofs.Try.prog 12 = true := by kernel_rfl
theorem ok13 : callOk Proofs.Try.prog 13 = true := by kernel_rfl
theorem ok14 : callOk Proofs.Try.prog 14 = true := by kernel_rfl
theorem ok15 : callOk Proofs.Try.prog 15 = true := by kernel_rfl
theorem ok16 : callOk Proofs.Try.prog 16 = true := by kernel_rfl
theorem ok17 : callOk Proofs.Try.prog 17 = true := by kernel_rfl
theorem ok18 : callOk Proofs.Try.prog 18 = true := by kernel_rfl
theorem ok19 : callOk Proofs.Try.prog 19 = true := by kernel_rfl
theorem ok20 : callOk Proofs.Try.prog 20 = true := by kernel_rfl
theorem ok21 : callOk Proofs.Try.prog 21 = true := by kernel_rfl
theorem ok22 : callOk Proofs.Try.prog 22 = true := by kernel_rfl
theorem ok23 : callOk Proofs.Try.prog 23 = true := by kernel_rfl
theorem ok24 : callOk Proofs.Try.prog 24 = true := by kernel_rfl
theorem ok25 : callOk Proofs.Try.prog 25 = true := by kernel_rfl
theorem ok26 : callOk Proofs.Try.prog 26 = true := by kernel_rfl
theorem ok27 : callOk Proofs.Try.prog 27 = true := by kernel_rfl
theorem ok28 : callOk Proofs.Try.prog 28 = true := by kernel_rfl
theorem ok29 : callOk Proofs.Try.prog 29 = true := by kernel_rfl
theorem ok30 : callOk Proofs.Try.prog 30 = true := by kernel_rfl
theorem ok31 : callOk Proofs.Try.prog 31 = true := by kernel_rfl
theorem ok32 : callOk Proofs.Try.prog 32 = true := by kernel_rfl
theorem ok33 : callOk Proofs.Try.prog 33 = true := by kernel_rfl
theorem ok34 : callOk Proofs.Try.prog 34 = true := by kernel_rfl
theorem ok35 : callOk Proofs.Try.prog 35 = true := by kernel_rfl
theorem ok36 : callOk Proofs.Try.prog 36 = true := by kernel_rfl
theorem ok37 : callOk Proofs.Try.prog 37 = true := by kernel_rfl
theorem ok38 : callOk Proofs.Try.prog 38 = true := by kernel_rfl
theorem ok39 : callOk Proofs.Try.prog 39 = true := by kernel_rfl
theorem ok40 : callOk Proofs.Try.prog 40 = true := by kernel_rfl
theorem ok41 : callOk Proofs.Try.prog 41 = true := by kernel_rfl
theorem ok42 : callOk Proofs.Try.prog 42 = true := by kernel_rfl
theorem ok43 : callOk Proofs.Try.prog 43 = true := by kernel_rfl
theorem ok44 : callOk Proofs.Try.prog 44 = true := by kernel_rfl
theorem ok45 : callOk Proofs.Try.prog 45 = true := by kernel_rfl
theorem ok46 : callOk Proofs.Try.prog 46 = true := by kernel_rfl
theorem ok47 : callOk Proofs.Try.prog 47 = true := by kernel_rfl
theorem ok48 : callOk Proofs.Try.prog 48 = true := by kernel_rfl
theorem ok49 : callOk Proofs.Try.prog 49 = true := by kernel_rfl
theorem ok50 : callOk Proofs.Try.prog 50 = true := by kernel_rfl
theorem ok51 : callOk Proofs.Try.prog 51 = true := by kernel_rfl
theorem ok52 : callOk Proofs.Try.prog 52 = true := by kernel_rfl
theorem ok53 : callOk Proofs.Try.prog 53 = true := by kernel_rfl
theorem ok54 : callOk Proofs.Try.prog 54 = true := by kernel_rfl
theorem ok55 : callOk Proofs.Try.prog 55 = true := by kernel_rfl
theorem ok56 : callOk Proofs.Try.prog 56 = true := by kernel_rfl
theorem ok57 : callOk Proofs.Try.prog 57 = true := by kernel_rfl
theorem ok58 : callOk Proofs.Try.prog 58 = true := by kernel_rfl
theorem ok59 : callOk Proofs.Try.prog 59 = true := by kernel_rfl
theorem ok60 : callOk Proofs.Try.prog 60 = true := by kernel_rfl
theorem ok61 : callOk Proofs.Try.prog 61 = true := by kernel_rfl
theorem ok62 : callOk Proofs.Try.prog 62 = true := by kernel_rfl
theorem ok63 : callOk Proofs.Try.prog 63 = true := by kernel_rfl
theorem ok64 : callOk Proofs.Try.prog 64 = true := by kernel_rfl
theorem ok65 : callOk Proofs.Try.prog 65 = true := by kernel_rfl
theorem ok66 : callOk Proofs.Try.prog 66 = true := by kernel_rfl
theorem ok67 : callOk Proofs.Try.prog 67 = true := by kernel_rfl
theorem ok68 : callOk Proofs.Try.prog 68 = true := by kernel_rfl
theorem ok69 : callOk Proofs.Try.prog 69 = true := by kernel_rfl
theorem ok70 : callOk Proofs.Try.prog 70 = true := by kernel_rfl
theorem ok71 : callOk Proofs.Try.prog 71 = true := by kernel_rfl
theorem ok72 : callOk Proofs.Try.prog 72 = true := by kernel_rfl
theorem ok73 : callOk Proofs.Try.prog 73 = true := by kernel_rfl
theorem ok74 : callOk Proofs.Try.prog 74 = true := by kernel_rfl
theorem ok75 : callOk Proofs.Try.prog 75 = true := by kernel_rfl
theorem ok76 : callOk Proofs.Try.prog 76 = true := by kernel_rfl
theorem ok77 : callOk Proofs.Try.prog 77 = true := by kernel_rfl
theorem ok78 : callOk Proofs.Try.prog 78 = true := by kernel_rfl
theorem ok79 : callOk Proofs.Try.prog 79 = true := by kernel_rfl
theorem ok80 : callOk Proofs.Try.prog 80 = true := by kernel_rfl
theorem ok81 : callOk Proofs.Try.prog 81 = true := by kernel_rfl
theorem ok82 : callOk Proofs.Try.prog 82 = true := by kernel_rfl
theorem ok83 : callOk Proofs.Try.prog 83 = true := by kernel_rfl
theorem ok84 : callOk Proofs.Try.prog 84 = true := by kernel_rfl
theorem ok85 : callOk Proofs.Try.prog 85 = true := by kernel_rfl
theorem ok86 : callOk Proofs.Try.prog 86 = true := by kernel_rfl
theorem ok87 : callOk Proofs.Try.prog 87 = true := by kernel_rfl
theorem ok88 : callOk Proofs.Try.prog 88 = true := by kernel_rfl
theorem ok89 : callOk Proofs.Try.prog 89 = true := by kernel_rfl
theorem ok90 : callOk Proofs.Try.prog 90 = true := by kernel_rfl
theorem ok91 : callOk Proofs.Try.prog 91 = true := by kernel_rfl
theorem ok92 : callOk Proofs.Try.prog 92 = true := by kernel_rfl
theorem ok93 : callOk Proofs.Try.prog 93 = true := by kernel_rfl
theorem ok94 : callOk Proofs.Try.prog 94 = true := by kernel_rfl
theorem ok95 : callOk Proofs.Try.prog 95 = true := by kernel_rfl
theorem ok96 : callOk Proofs.Try.prog 96 = true := by kernel_rfl
theorem ok97 : callOk Proofs.Try.prog 97 = true := by kernel_rfl
theorem ok98 : callOk Proofs.Try.prog 98 = true := by kernel_rfl
theorem ok99 : callOk Proofs.Try.prog 99 = true := by kernel_rfl
theorem ok100 : callOk Proofs.Try.prog 100 = true := by kernel_rfl
theorem ok101 : callOk Proofs.Try.prog 101 = true := by kernel_rfl
theorem ok102 : callOk Proofs.Try.prog 102 = true := by kernel_rfl
theorem ok103 : callOk Proofs.Try.prog 103 = true := by kernel_rfl
theorem ok104 : callOk Proofs.Try.prog 104 = true := by kernel_rfl
theorem ok105 : callOk Proofs.Try.prog 105 = true := by kernel_rfl
theorem ok106 : callOk Proofs.Try.prog 106 = true := by kernel_rfl
theorem ok107 : callOk Proofs.Try.prog 107 = true := by kernel_rfl
theorem ok108 : callOk Proofs.Try.prog 108 = true := by kernel_rfl
theorem ok109 : callOk Proofs.Try.prog 109 = true := by kernel_rfl
theorem ok110 : callOk Proofs.Try.prog 110 = true := by kernel_rfl
theorem ok111 : callOk Proofs.Try.prog 111 = true := by kernel_rfl
theorem ok112 : callOk Proofs.Try.prog 112 = true := by kernel_rfl
theorem ok113 : callOk Proofs.Try.prog 113 = true := by kernel_rfl
theorem ok114 : callOk Proofs.Try.prog 114 = true := by kernel_rfl
theorem ok115 : callOk Proofs.Try.prog 115 = true := by kernel_rfl
theorem ok116 : callOk Proofs.Try.prog 116 = true := by kernel_rfl
theorem ok117 : callOk Proofs.Try.prog 117 = true := by kernel_rfl
theorem ok118 : callOk Proofs.Try.prog 118 = true := by kernel_rfl
theorem ok119 : callOk Proofs.Try.prog 119 = true := by kernel_rfl
theorem ok120 : callOk Proofs.Try.prog 120 = true := by kernel_rfl
theorem ok121 : callOk Proofs.Try.prog 121 = true := by kernel_rfl
theorem ok122 : callOk Proofs.Try.prog 122 = true := by kernel_rfl
theorem ok123 : callOk Proofs.Try.prog 123 = true := by kernel_rfl
theorem ok124 : callOk Proofs.Try.prog 124 = true := by kernel_rfl
theorem ok125 : callOk Proofs.Try.prog 125 = true := by kernel_rfl
theorem ok126 : callOk Proofs.Try.prog 126 = true := by kernel_rfl
theorem ok127 : callOk Proofs.Try.prog 127 = true := by kernel_rfl
theorem ok128 : callOk Proofs.Try.prog 128 = true := by kernel_rfl
theorem ok129 : callOk Proofs.Try.prog 129 = true := by kernel_rfl
theorem ok130 : callOk Proofs.Try.prog 130 = true := by kernel_rfl
theorem ok131 : callOk Proofs.Try.prog 131 = true := by kernel_rfl
theorem ok132 : callOk Proofs.Try.prog 132 = true := by kernel_rfl
theorem ok133 : callOk Proofs.Try.prog 133 = true := by kernel_rfl
theorem ok134 : callOk Proofs.Try.prog 134 = true := by kernel_rfl
theorem ok135 : callOk Proofs.Try.prog 135 = true := by kernel_rfl
theorem ok136 : callOk Proofs.Try.prog 136 = true := by kernel_rfl
theorem ok137 : callOk Proofs.Try.prog 137 = true := by kernel_rfl
theorem ok138 : callOk Proofs.Try.prog 138 = true := by kernel_rfl
theorem ok139 : callOk Proofs.Try.prog 139 = true := by kernel_rfl
theorem ok140 : callOk Proofs.Try.prog 140 = true := by kernel_rfl
theorem ok141 : callOk Proofs.Try.prog 141 = true := by kernel_rfl
theorem ok142 : callOk Proofs.Try.prog 142 = true := by kernel_rfl
theorem ok143 : callOk Proofs.Try.prog 143 = true := by kernel_rfl
theorem ok144 : callOk Proofs.Try.prog 144 = true := by kernel_rfl
theorem ok145 : callOk Proofs.Try.prog 145 = true := by kernel_rfl
theorem ok146 : callOk Proofs.Try.prog 146 = true := by kernel_rfl
theorem ok147 : callOk Proofs.Try.prog 147 = true := by kernel_rfl
theorem ok148 : callOk Proofs.Try.prog 148 = true := by kernel_rfl
theorem ok149 : callOk Proofs.Try.prog 149 = true := by kernel_rfl
theorem ok150 : callOk Proofs.Try.prog 150 = true := by kernel_rfl
theorem ok151 : callOk Proofs.Try.prog 151 = true := by kernel_rfl
theorem ok152 : callOk Proofs.Try.prog 152 = true := by kernel_rfl
theorem ok153 : callOk Proofs.Try.prog 153 = true := by kernel_rfl
theorem ok154 : callOk Proofs.Try.prog 154 = true := by kernel_rfl
theorem ok155 : callOk Proofs.Try.prog 155 = true := by kernel_rfl
theorem ok156 : callOk Proofs.Try.prog 156 = true := by kernel_rfl
theorem ok157 : callOk Proofs.Try.prog 157 = true := by kernel_rfl
theorem ok158 : callOk Proofs.Try.prog 158 = true := by kernel_rfl
theorem ok159 : callOk Proofs.Try.prog 159 = true := by kernel_rfl
theorem ok160 : callOk Proofs.Try.prog 160 = true := by kernel_rfl
theorem ok161 : callOk Proofs.Try.prog 161 = true := by kernel_rfl
theorem ok162 : callOk Proofs.Try.prog 162 = true := by kernel_rfl
theorem ok163 : callOk Proofs.Try.prog 163 = true := by kernel_rfl
theorem ok164 : callOk Proofs.Try.prog 164 = true := by kernel_rfl
theorem ok165 : callOk Proofs.Try.prog 165 = true := by kernel_rfl
theorem ok166 : callOk Proofs.Try.prog 166 = true := by kernel_rfl
theorem ok167 : callOk Proofs.Try.prog 167 = true := by kernel_rfl
theorem ok168 : callOk Proofs.Try.prog 168 = true := by kernel_rfl
theorem ok169 : callOk Proofs.Try.prog 169 = true := by kernel_rfl
theorem ok170 : callOk Proofs.Try.prog 170 = true := by kernel_rfl
theorem ok171 : callOk Proofs.Try.prog 171 = true := by kernel_rfl
theorem ok172 : callOk Proofs.Try.prog 172 = true := by kernel_rfl
theorem ok173 : callOk Proofs.Try.prog 173 = true := by kernel_rfl
theorem ok174 : callOk Proofs.Try.prog 174 = true := by kernel_rfl
theorem ok175 : callOk Proofs.Try.prog 175 = true := by kernel_rfl
theorem ok176 : callOk Proofs.Try.prog 176 = true := by kernel_rfl
theorem ok177 : callOk Proofs.Try.prog 177 = true := by kernel_rfl
theorem ok178 : callOk Proofs.Try.prog 178 = true := by kernel_rfl
theorem ok179 : callOk Proofs.Try.prog 179 = true := by kernel_rfl
theorem ok180 : callOk Proofs.Try.prog 180 = true := by kernel_rfl
theorem ok181 : callOk Proofs.Try.prog 181 = true := by kernel_rfl
theorem ok182 : callOk Proofs.Try.prog 182 = true := by kernel_rfl
theorem ok183 : callOk Proofs.Try.prog 183 = true := by kernel_rfl
theorem ok184 : callOk Proofs.Try.prog 184 = true := by kernel_rfl
theorem ok185 : callOk Proofs.Try.prog 185 = true := by kernel_rfl
theorem ok186 : callOk Proofs.Try.prog 186 = true := by kernel_rfl
theorem ok187 : callOk Proofs.Try.prog 187 = true := by kernel_rfl
theorem ok188 : callOk Proofs.Try.prog 188 = true := by kernel_rfl
theorem ok189 : callOk Proofs.Try.prog 189 = true := by kernel_rfl
theorem ok190 : callOk Proofs.Try.prog 190 = true := by kernel_rfl
theorem ok191 : callOk Proofs.Try.prog 191 = true := by kernel_rfl
theorem ok192 : callOk Proofs.Try.prog 192 = true := by kernel_rfl
theorem ok193 : callOk Proofs.Try.prog 193 = true := by kernel_rfl
theorem ok194 : callOk Proofs.Try.prog 194 = true := by kernel_rfl
theorem mixed : Proofs.Try.prog.follows .mixedOrders = true := by kernel_rfl
end Go.Sy.F

import Derived.Test.YtdjeadgebcndeaazRxU
import Derived.Test.YtdjeadgebcndeaazRxSeat
import Derived.Test.YtdjeadgebcndeaaProg
import Derived.Test.YtdjeadgebcndeaazRl0
namespace Go.Proofs.Ytdjeadgebcndeaa.X
open Go Go.RowKit Go.Proofs.YtdjeadgebcndeaaW.Rx
set_option linter.unusedVariables false
set_option linter.unusedSimpArgs false
set_option maxRecDepth 10000
def law09_ReasmOver.s2 (k : Nat) (l1 : List (Int × Int × (List Int) × Bool)) : (Int × (Int × Int × (List Int) × (List (Int × Int)) × Int × Bool × Bool)) → Option (Sum (Int × (Int × Int × (List Int) × (List (Int × Int)) × Int × Bool × Bool)) Bool) := fun (v2_0, q2_b0) => bif decide (v2_0 < ((l1.length : Nat) : Int)) then ((getI l1 v2_0).bind fun r16 => (reasm_Stream_Over.F k (some q2_b0)).bind fun v4_0 => bif v4_0 then ((reasm_Stream_At.F k (some q2_b0)).bind fun v5_0 => (reasm_Stream_Broken.F k (some q2_b0)).bind fun v6_0 => bif v6_0 then ((reasm_Stream_End.F k (some q2_b0)).bind fun (v7_0, v7_1) => bif v7_1 then (bif Int.tmod r16.1 3 == 0 then (bif r16.2.2.2 then ((reasm_Stream_Data.F k q2_b0 r16.2.1 r16.2.2.1 true).bind fun (v8_0, q8) => (reasm_Stream_End.F k (some q8)).bind fun (v9_0, v9_1) => bif v9_1 then ((reasm_Stream_Over.F k (some q8)).bind fun v10_0 => bif v10_0 then ((reasm_Stream_At.F k (some q8)).bind fun v11_0 => bif v11_0 != v5_0 then (some (.inr false)) else ((reasm_Stream_Broken.F k (some q8)).bind fun v12_0 => bif v12_0 then (bif v9_0 != v7_0 then (some (.inr false)) else (some (.inl ((IntKind.wrap IntKind.i64 (v2_0 + 1), q8))))) else (some (.inr false)))) else (some (.inr false))) else ((reasm_Stream_Over.F k (some q8)).bind fun v10_0 => bif v10_0 then ((reasm_Stream_At.F k (some q8)).bind fun v11_0 => bif v11_0 != v5_0 then (some (.inr false)) else ((reasm_Stream_Broken.F k (some q8)).bind fun v12_0 => bif v12_0 then (bif v9_0 != v7_0 then (some (.inr false)) else (some (.inr false))) else (some (.inr false)))) else (some (.inr false)))) else ((reasm_Stream_Data.F k q2_b0 r16.2.1 r16.2.2.1 false).bind fun (v8_0, q8) => (reasm_Stream_End.F k (some q8)).bind fun (v9_0, v9_1) => bif v9_1 then ((reasm_Stream_Over.F k (some q8)).bind fun v10_0 => bif v10_0 then ((reasm_Stream_At.F k (some q8)).bind fun v11_0 => bif v11_0 != v5_0 then (some (.inr false)) else ((reasm_Stream_Broken.F k (some q8)).bind fun v12_0 => bif v12_0 then (bif v9_0 != v7_0 then (some (.inr false)) else (some (.inl ((IntKind.wrap IntKind.i64 (v2_0 + 1), q8))))) else (some (.inr false)))) else (some (.inr false))) else ((reasm_Stream_Over.F k (some q8)).bind fun v10_0 => bif v10_0 then ((reasm_Stream_At.F k (some q8)).bind fun v11_0 => bif v11_0 != v5_0 then (some (.inr false)) else ((reasm_Stream_Broken.F k (some q8)).bind fun v12_0 => bif v12_0 then (bif v9_0 != v7_0 then (some (.inr false)) else (some (.inr false))) else (some (.inr false)))) else (some (.inr false))))) else (bif Int.tmod r16.1 3 == 1 then ((reasm_Stream_Read.F k q2_b0 r16.2.1).bind fun (s8_0, q8) => bif ((s8_0.length : Nat) : Int) != 0 then (some (.inr false)) else ((reasm_Stream_Read.F k q8 r16.2.1).bind fun (s9_0, q9) => (reasm_Stream_End.F k (some q9)).bind fun (v10_0, v10_1) => bif v10_1 then ((reasm_Stream_Over.F k (some q9)).bind fun v11_0 => bif v11_0 then ((reasm_Stream_At.F k (some q9)).bind fun v12_0 => bif v12_0 != v5_0 then (some (.inr false)) else ((reasm_Stream_Broken.F k (some q9)).bind fun v13_0 => bif v13_0 then (bif v10_0 != v7_0 then (some (.inr false)) else (some (.inl ((IntKind.wrap IntKind.i64 (v2_0 + 1), q9))))) else (some (.inr false)))) else (some (.inr false))) else ((reasm_Stream_Over.F k (some q9)).bind fun v11_0 => bif v11_0 then ((reasm_Stream_At.F k (some q9)).bind fun v12_0 => bif v12_0 != v5_0 then (some (.inr false)) else ((reasm_Stream_Broken.F k (some q9)).bind fun v13_0 => bif v13_0 then (bif v10_0 != v7_0 then (some (.inr false)) else (some (.inr false))) else (some (.inr false)))) else (some (.inr false))))) else ((reasm_Stream_Reset.F k q2_b0 r16.2.1).bind fun (v8_0, q8) => (reasm_Stream_End.F k (some q8)).bind fun (v9_0, v9_1) => bif v9_1 then ((reasm_Stream_Over.F k (some q8)).bind fun v10_0 => bif v10_0 then ((reasm_Stream_At.F k (some q8)).bind fun v11_0 => bif v11_0 != v5_0 then (some (.inr false)) else ((reasm_Stream_Broken.F k (some q8)).bind fun v12_0 => bif v12_0 then (bif v9_0 != v7_0 then (some (.inr false)) else (some (.inl ((IntKind.wrap IntKind.i64 (v2_0 + 1), q8))))) else (some (.inr false)))) else (some (.inr false))) else ((reasm_Stream_Over.F k (some q8)).bind fun v10_0 => bif v10_0 then ((reasm_Stream_At.F k (some q8)).bind fun v11_0 => bif v11_0 != v5_0 then (some (.inr false)) else ((reasm_Stream_Broken.F k (some q8)).bind fun v12_0 => bif v12_0 then (bif v9_0 != v7_0 then (some (.inr false)) else (some (.inr false))) else (some (.inr false)))) else (some (.inr false)))))) else (bif Int.tmod r16.1 3 == 0 then (bif r16.2.2.2 then ((reasm_Stream_Data.F k q2_b0 r16.2.1 r16.2.2.1 true).bind fun (v8_0, q8) => (reasm_Stream_End.F k (some q8)).bind fun (v9_0, v9_1) => bif v9_1 then ((reasm_Stream_Over.F k (some q8)).bind fun v10_0 => bif v10_0 then ((reasm_Stream_At.F k (some q8)).bind fun v11_0 => bif v11_0 != v5_0 then (some (.inr false)) else ((reasm_Stream_Broken.F k (some q8)).bind fun v12_0 => bif v12_0 then (bif v9_0 != v7_0 then (some (.inr false)) else (some (.inl ((IntKind.wrap IntKind.i64 (v2_0 + 1), q8))))) else (some (.inr false)))) else (some (.inr false))) else ((reasm_Stream_Over.F k (some q8)).bind fun v10_0 => bif v10_0 then ((reasm_Stream_At.F k (some q8)).bind fun v11_0 => bif v11_0 != v5_0 then (some (.inr false)) else ((reasm_Stream_Broken.F k (some q8)).bind fun v12_0 => bif v12_0 then (bif v9_0 != v7_0 then (some (.inr false)) else (some (.inr false))) else (some (.inr false)))) else (some (.inr false)))) else ((reasm_Stream_Data.F k q2_b0 r16.2.1 r16.2.2.1 false).bind fun (v8_0, q8) => (reasm_Stream_End.F k (some q8)).bind fun (v9_0, v9_1) => bif v9_1 then ((reasm_Stream_Over.F k (some q8)).bind fun v10_0 => bif v10_0 then ((reasm_Stream_At.F k (some q8)).bind fun v11_0 => bif v11_0 != v5_0 then (some (.inr false)) else ((reasm_Stream_Broken.F k (some q8)).bind fun v12_0 => bif v12_0 then (bif v9_0 != v7_0 then (some (.inr false)) else (some (.inl ((IntKind.wrap IntKind.i64 (v2_0 + 1), q8))))) else (some (.inr false)))) else (some (.inr false))) else ((reasm_Stream_Over.F k (some q8)).bind fun v10_0 => bif v10_0 then ((reasm_Stream_At.F k (some q8)).bind fun v11_0 => bif v11_0 != v5_0 then (some (.inr false)) else ((reasm_Stream_Broken.F k (some q8)).bind fun v12_0 => bif v12_0 then (bif v9_0 != v7_0 then (some (.inr false)) else (some (.inr false))) else (some (.inr false)))) else (some (.inr false))))) else (bif Int.tmod r16.1 3 == 1 then ((reasm_Stream_Read.F k q2_b0 r16.2.1).bind fun (s8_0, q8) => bif ((s8_0.length : Nat) : Int) != 0 then (some (.inr false)) else ((reasm_Stream_Read.F k q8 r16.2.1).bind fun (s9_0, q9) => (reasm_Stream_End.F k (some q9)).bind fun (v10_0, v10_1) => bif v10_1 then ((reasm_Stream_Over.F k (some q9)).bind fun v11_0 => bif v11_0 then ((reasm_Stream_At.F k (some q9)).bind fun v12_0 => bif v12_0 != v5_0 then (some (.inr false)) else ((reasm_Stream_Broken.F k (some q9)).bind fun v13_0 => bif v13_0 then (bif v10_0 != v7_0 then (some (.inr false)) else (some (.inl ((IntKind.wrap IntKind.i64 (v2_0 + 1), q9))))) else (some (.inr false)))) else (some (.inr false))) else ((reasm_Stream_Over.F k (some q9)).bind fun v11_0 => bif v11_0 then ((reasm_Stream_At.F k (some q9)).bind fun v12_0 => bif v12_0 != v5_0 then (some (.inr false)) else ((reasm_Stream_Broken.F k (some q9)).bind fun v13_0 => bif v13_0 then (bif v10_0 != v7_0 then (some (.inr false)) else (some (.inr false))) else (some (.inr false)))) else (some (.inr false))))) else ((reasm_Stream_Reset.F k q2_b0 r16.2.1).bind fun (v8_0, q8) => (reasm_Stream_End.F k (some q8)).bind fun (v9_0, v9_1) => bif v9_1 then ((reasm_Stream_Over.F k (some q8)).bind fun v10_0 => bif v10_0 then ((reasm_Stream_At.F k (some q8)).bind fun v11_0 => bif v11_0 != v5_0 then (some (.inr false)) else ((reasm_Stream_Broken.F k (some q8)).bind fun v12_0 => bif v12_0 then (bif v9_0 != v7_0 then (some (.inr false)) else (some (.inl ((IntKind.wrap IntKind.i64 (v2_0 + 1), q8))))) else (some (.inr false)))) else (some (.inr false))) else ((reasm_Stream_Over.F k (some q8)).bind fun v10_0 => bif v10_0 then ((reasm_Stream_At.F k (some q8)).bind fun v11_0 => bif v11_0 != v5_0 then (some (.inr false)) else ((reasm_Stream_Broken.F k (some q8)).bind fun v12_0 => bif v12_0 then (bif v9_0 != v7_0 then (some (.inr false)) else (some (.inr false))) else (some (.inr false)))) else (some (.inr false))))))) else ((reasm_Stream_End.F k (some q2_b0)).bind fun (v7_0, v7_1) => bif v7_1 then (bif Int.tmod r16.1 3 == 0 then (bif r16.2.2.2 then ((reasm_Stream_Data.F k q2_b0 r16.2.1 r16.2.2.1 true).bind fun (v8_0, q8) => (reasm_Stream_End.F k (some q8)).bind fun (v9_0, v9_1) => bif v9_1 then ((reasm_Stream_Over.F k (some q8)).bind fun v10_0 => bif v10_0 then ((reasm_Stream_At.F k (some q8)).bind fun v11_0 => bif v11_0 != v5_0 then (some (.inr false)) else ((reasm_Stream_Broken.F k (some q8)).bind fun v12_0 => bif v12_0 then (some (.inr false)) else (bif v9_0 != v7_0 then (some (.inr false)) else (some (.inl ((IntKind.wrap IntKind.i64 (v2_0 + 1), q8))))))) else (some (.inr false))) else ((reasm_Stream_Over.F k (some q8)).bind fun v10_0 => bif v10_0 then ((reasm_Stream_At.F k (some q8)).bind fun v11_0 => bif v11_0 != v5_0 then (some (.inr false)) else ((reasm_Stream_Broken.F k (some q8)).bind fun v12_0 => bif v12_0 then (some (.inr false)) else (bif v9_0 != v7_0 then (some (.inr false)) else (some (.inr false))))) else (some (.inr false)))) else ((reasm_Stream_Data.F k q2_b0 r16.2.1 r16.2.2.1 false).bind fun (v8_0, q8) => (reasm_Stream_End.F k (some q8)).bind fun (v9_0, v9_1) => bif v9_1 then ((reasm_Stream_Over.F k (some q8)).bind fun v10_0 => bif v10_0 then ((reasm_Stream_At.F k (some q8)).bind fun v11_0 => bif v11_0 != v5_0 then (some (.inr false)) else ((reasm_Stream_Broken.F k (some q8)).bind fun v12_0 => bif v12_0 then (some (.inr false)) else (bif v9_0 != v7_0 then (some (.inr false)) else (some (.inl ((IntKind.wrap IntKind.i64 (v2_0 + 1), q8))))))) else (some (.inr false))) else ((reasm_Stream_Over.F k (some q8)).bind fun v10_0 => bif v10_0 then ((reasm_Stream_At.F k (some q8)).bind fun v11_0 => bif v11_0 != v5_0 then (some (.inr false)) else ((reasm_Stream_Broken.F k (some q8)).bind fun v12_0 => bif v12_0 then (some (.inr false)) else (bif v9_0 != v7_0 then (some (.inr false)) else (some (.inr false))))) else (some (.inr false))))) else (bif Int.tmod r16.1 3 == 1 then ((reasm_Stream_Read.F k q2_b0 r16.2.1).bind fun (s8_0, q8) => bif ((s8_0.length : Nat) : Int) != 0 then (some (.inr false)) else ((reasm_Stream_Read.F k q8 r16.2.1).bind fun (s9_0, q9) => (reasm_Stream_End.F k (some q9)).bind fun (v10_0, v10_1) => bif v10_1 then ((reasm_Stream_Over.F k (some q9)).bind fun v11_0 => bif v11_0 then ((reasm_Stream_At.F k (some q9)).bind fun v12_0 => bif v12_0 != v5_0 then (some (.inr false)) else ((reasm_Stream_Broken.F k (some q9)).bind fun v13_0 => bif v13_0 then (some (.inr false)) else (bif v10_0 != v7_0 then (some (.inr false)) else (some (.inl ((IntKind.wrap IntKind.i64 (v2_0 + 1), q9))))))) else (some (.inr false))) else ((reasm_Stream_Over.F k (some q9)).bind fun v11_0 => bif v11_0 then ((reasm_Stream_At.F k (some q9)).bind fun v12_0 => bif v12_0 != v5_0 then (some (.inr false)) else ((reasm_Stream_Broken.F k (some q9)).bind fun v13_0 => bif v13_0 then (some (.inr false)) else (bif v10_0 != v7_0 then (some (.inr false)) else (some (.inr false))))) else (some (.inr false))))) else ((reasm_Stream_Reset.F k q2_b0 r16.2.1).bind fun (v8_0, q8) => (reasm_Stream_End.F k (some q8)).bind fun (v9_0, v9_1) => bif v9_1 then ((reasm_Stream_Over.F k (some q8)).bind fun v10_0 => bif v10_0 then ((reasm_Stream_At.F k (some q8)).bind fun v11_0 => bif v11_0 != v5_0 then (some (.inr false)) else ((reasm_Stream_Broken.F k (some q8)).bind fun v12_0 => bif v12_0 then (some (.inr false)) else (bif v9_0 != v7_0 then (some (.inr false)) else (some (.inl ((IntKind.wrap IntKind.i64 (v2_0 + 1), q8))))))) else (some (.inr false))) else ((reasm_Stream_Over.F k (some q8)).bind fun v10_0 => bif v10_0 then ((reasm_Stream_At.F k (some q8)).bind fun v11_0 => bif v11_0 != v5_0 then (some (.inr false)) else ((reasm_Stream_Broken.F k (some q8)).bind fun v12_0 => bif v12_0 then (some (.inr false)) else (bif v9_0 != v7_0 then (some (.inr false)) else (some (.inr false))))) else (some (.inr false)))))) else (bif Int.tmod r16.1 3 == 0 then (bif r16.2.2.2 then ((reasm_Stream_Data.F k q2_b0 r16.2.1 r16.2.2.1 true).bind fun (v8_0, q8) => (reasm_Stream_End.F k (some q8)).bind fun (v9_0, v9_1) => bif v9_1 then ((reasm_Stream_Over.F k (some q8)).bind fun v10_0 => bif v10_0 then ((reasm_Stream_At.F k (some q8)).bind fun v11_0 => bif v11_0 != v5_0 then (some (.inr false)) else ((reasm_Stream_Broken.F k (some q8)).bind fun v12_0 => bif v12_0 then (some (.inr false)) else (bif v9_0 != v7_0 then (some (.inr false)) else (some (.inl ((IntKind.wrap IntKind.i64 (v2_0 + 1), q8))))))) else (some (.inr false))) else ((reasm_Stream_Over.F k (some q8)).bind fun v10_0 => bif v10_0 then ((reasm_Stream_At.F k (some q8)).bind fun v11_0 => bif v11_0 != v5_0 then (some (.inr false)) else ((reasm_Stream_Broken.F k (some q8)).bind fun v12_0 => bif v12_0 then (some (.inr false)) else (bif v9_0 != v7_0 then (some (.inr false)) else (some (.inr false))))) else (some (.inr false)))) else ((reasm_Stream_Data.F k q2_b0 r16.2.1 r16.2.2.1 false).bind fun (v8_0, q8) => (reasm_Stream_End.F k (some q8)).bind fun (v9_0, v9_1) => bif v9_1 then ((reasm_Stream_Over.F k (some q8)).bind fun v10_0 => bif v10_0 then ((reasm_Stream_At.F k (some q8)).bind fun v11_0 => bif v11_0 != v5_0 then (some (.inr false)) else ((reasm_Stream_Broken.F k (some q8)).bind fun v12_0 => bif v12_0 then (some (.inr false)) else (bif v9_0 != v7_0 then (some (.inr false)) else (some (.inl ((IntKind.wrap IntKind.i64 (v2_0 + 1), q8))))))) else (some (.inr false))) else ((reasm_Stream_Over.F k (some q8)).bind fun v10_0 => bif v10_0 then ((reasm_Stream_At.F k (some q8)).bind fun v11_0 => bif v11_0 != v5_0 then (some (.inr false)) else ((reasm_Stream_Broken.F k (some q8)).bind fun v12_0 => bif v12_0 then (some (.inr false)) else (bif v9_0 != v7_0 then (some (.inr false)) else (some (.inr false))))) else (some (.inr false))))) else (bif Int.tmod r16.1 3 == 1 then ((reasm_Stream_Read.F k q2_b0 r16.2.1).bind fun (s8_0, q8) => bif ((s8_0.length : Nat) : Int) != 0 then (some (.inr false)) else ((reasm_Stream_Read.F k q8 r16.2.1).bind fun (s9_0, q9) => (reasm_Stream_End.F k (some q9)).bind fun (v10_0, v10_1) => bif v10_1 then ((reasm_Stream_Over.F k (some q9)).bind fun v11_0 => bif v11_0 then ((reasm_Stream_At.F k (some q9)).bind fun v12_0 => bif v12_0 != v5_0 then (some (.inr false)) else ((reasm_Stream_Broken.F k (some q9)).bind fun v13_0 => bif v13_0 then (some (.inr false)) else (bif v10_0 != v7_0 then (some (.inr false)) else (some (.inl ((IntKind.wrap IntKind.i64 (v2_0 + 1), q9))))))) else (some (.inr false))) else ((reasm_Stream_Over.F k (some q9)).bind fun v11_0 => bif v11_0 then ((reasm_Stream_At.F k (some q9)).bind fun v12_0 => bif v12_0 != v5_0 then (some (.inr false)) else ((reasm_Stream_Broken.F k (some q9)).bind fun v13_0 => bif v13_0 then (some (.inr false)) else (bif v10_0 != v7_0 then (some (.inr false)) else (some (.inr false))))) else (some (.inr false))))) else ((reasm_Stream_Reset.F k q2_b0 r16.2.1).bind fun (v8_0, q8) => (reasm_Stream_End.F k (some q8)).bind fun (v9_0, v9_1) => bif v9_1 then ((reasm_Stream_Over.F k (some q8)).bind fun v10_0 => bif v10_0 then ((reasm_Stream_At.F k (some q8)).bind fun v11_0 => bif v11_0 != v5_0 then (some (.inr false)) else ((reasm_Stream_Broken.F k (some q8)).bind fun v12_0 => bif v12_0 then (some (.inr false)) else (bif v9_0 != v7_0 then (some (.inr false)) else (some (.inl ((IntKind.wrap IntKind.i64 (v2_0 + 1), q8))))))) else (some (.inr false))) else ((reasm_Stream_Over.F k (some q8)).bind fun v10_0 => bif v10_0 then ((reasm_Stream_At.F k (some q8)).bind fun v11_0 => bif v11_0 != v5_0 then (some (.inr false)) else ((reasm_Stream_Broken.F k (some q8)).bind fun v12_0 => bif v12_0 then (some (.inr false)) else (bif v9_0 != v7_0 then (some (.inr false)) else (some (.inr false))))) else (some (.inr false)))))))) else ((reasm_Stream_At.F k (some q2_b0)).bind fun v5_0 => (reasm_Stream_Broken.F k (some q2_b0)).bind fun v6_0 => bif v6_0 then ((reasm_Stream_End.F k (some q2_b0)).bind fun (v7_0, v7_1) => bif v7_1 then (bif Int.tmod r16.1 3 == 0 then (bif r16.2.2.2 then ((reasm_Stream_Data.F k q2_b0 r16.2.1 r16.2.2.1 true).bind fun (v8_0, q8) => (reasm_Stream_End.F k (some q8)).bind fun (v9_0, v9_1) => bif v9_1 then (some (.inl ((IntKind.wrap IntKind.i64 (v2_0 + 1), q8)))) else (some (.inl ((IntKind.wrap IntKind.i64 (v2_0 + 1), q8))))) else ((reasm_Stream_Data.F k q2_b0 r16.2.1 r16.2.2.1 false).bind fun (v8_0, q8) => (reasm_Stream_End.F k (some q8)).bind fun (v9_0, v9_1) => bif v9_1 then (some (.inl ((IntKind.wrap IntKind.i64 (v2_0 + 1), q8)))) else (some (.inl ((IntKind.wrap IntKind.i64 (v2_0 + 1), q8)))))) else (bif Int.tmod r16.1 3 == 1 then ((reasm_Stream_Read.F k q2_b0 r16.2.1).bind fun (s8_0, q8) => (reasm_Stream_End.F k (some q8)).bind fun (v9_0, v9_1) => bif v9_1 then (some (.inl ((IntKind.wrap IntKind.i64 (v2_0 + 1), q8)))) else (some (.inl ((IntKind.wrap IntKind.i64 (v2_0 + 1), q8))))) else ((reasm_Stream_Reset.F k q2_b0 r16.2.1).bind fun (v8_0, q8) => (reasm_Stream_End.F k (some q8)).bind fun (v9_0, v9_1) => bif v9_1 then (some (.inl ((IntKind.wrap IntKind.i64 (v2_0 + 1), q8)))) else (some (.inl ((IntKind.wrap IntKind.i64 (v2_0 + 1), q8))))))) else (bif Int.tmod r16.1 3 == 0 then (bif r16.2.2.2 then ((reasm_Stream_Data.F k q2_b0 r16.2.1 r16.2.2.1 true).bind fun (v8_0, q8) => (reasm_Stream_End.F k (some q8)).bind fun (v9_0, v9_1) => bif v9_1 then (some (.inl ((IntKind.wrap IntKind.i64 (v2_0 + 1), q8)))) else (some (.inl ((IntKind.wrap IntKind.i64 (v2_0 + 1), q8))))) else ((reasm_Stream_Data.F k q2_b0 r16.2.1 r16.2.2.1 false).bind fun (v8_0, q8) => (reasm_Stream_End.F k (some q8)).bind fun (v9_0, v9_1) => bif v9_1 then (some (.inl ((IntKind.wrap IntKind.i64 (v2_0 + 1), q8)))) else (some (.inl ((IntKind.wrap IntKind.i64 (v2_0 + 1), q8)))))) else (bif Int.tmod r16.1 3 == 1 then ((reasm_Stream_Read.F k q2_b0 r16.2.1).bind fun (s8_0, q8) => (reasm_Stream_End.F k (some q8)).bind fun (v9_0, v9_1) => bif v9_1 then (some (.inl ((IntKind.wrap IntKind.i64 (v2_0 + 1), q8)))) else (some (.inl ((IntKind.wrap IntKind.i64 (v2_0 + 1), q8))))) else ((reasm_Stream_Reset.F k q2_b0 r16.2.1).bind fun (v8_0, q8) => (reasm_Stream_End.F k (some q8)).bind fun (v9_0, v9_1) => bif v9_1 then (some (.inl ((IntKind.wrap IntKind.i64 (v2_0 + 1), q8)))) else (some (.inl ((IntKind.wrap IntKind.i64 (v2_0 + 1), q8)))))))) else ((reasm_Stream_End.F k (some q2_b0)).bind fun (v7_0, v7_1) => bif v7_1 then (bif Int.tmod r16.1 3 == 0 then (bif r16.2.2.2 then ((reasm_Stream_Data.F k q2_b0 r16.2.1 r16.2.2.1 true).bind fun (v8_0, q8) => (reasm_Stream_End.F k (some q8)).bind fun (v9_0, v9_1) => bif v9_1 then (some (.inl ((IntKind.wrap IntKind.i64 (v2_0 + 1), q8)))) else (some (.inl ((IntKind.wrap IntKind.i64 (v2_0 + 1), q8))))) else ((reasm_Stream_Data.F k q2_b0 r16.2.1 r16.2.2.1 false).bind fun (v8_0, q8) => (reasm_Stream_End.F k (some q8)).bind fun (v9_0, v9_1) => bif v9_1 then (some (.inl ((IntKind.wrap IntKind.i64 (v2_0 + 1), q8)))) else (some (.inl ((IntKind.wrap IntKind.i64 (v2_0 + 1), q8)))))) else (bif Int.tmod r16.1 3 == 1 then ((reasm_Stream_Read.F k q2_b0 r16.2.1).bind fun (s8_0, q8) => (reasm_Stream_End.F k (some q8)).bind fun (v9_0, v9_1) => bif v9_1 then (some (.inl ((IntKind.wrap IntKind.i64 (v2_0 + 1), q8)))) else (some (.inl ((IntKind.wrap IntKind.i64 (v2_0 + 1), q8))))) else ((reasm_Stream_Reset.F k q2_b0 r16.2.1).bind fun (v8_0, q8) => (reasm_Stream_End.F k (some q8)).bind fun (v9_0, v9_1) => bif v9_1 then (some (.inl ((IntKind.wrap IntKind.i64 (v2_0 + 1), q8)))) else (some (.inl ((IntKind.wrap IntKind.i64 (v2_0 + 1), q8))))))) else (bif Int.tmod r16.1 3 == 0 then (bif r16.2.2.2 then ((reasm_Stream_Data.F k q2_b0 r16.2.1 r16.2.2.1 true).bind fun (v8_0, q8) => (reasm_Stream_End.F k (some q8)).bind fun (v9_0, v9_1) => bif v9_1 then (some (.inl ((IntKind.wrap IntKind.i64 (v2_0 + 1), q8)))) else (some (.inl ((IntKind.wrap IntKind.i64 (v2_0 + 1), q8))))) else ((reasm_Stream_Data.F k q2_b0 r16.2.1 r16.2.2.1 false).bind fun (v8_0, q8) => (reasm_Stream_End.F k (some q8)).bind fun (v9_0, v9_1) => bif v9_1 then (some (.inl ((IntKind.wrap IntKind.i64 (v2_0 + 1), q8)))) else (some (.inl ((IntKind.wrap IntKind.i64 (v2_0 + 1), q8)))))) else (bif Int.tmod r16.1 3 == 1 then ((reasm_Stream_Read.F k q2_b0 r16.2.1).bind fun (s8_0, q8) => (reasm_Stream_End.F k (some q8)).bind fun (v9_0, v9_1) => bif v9_1 then (some (.inl ((IntKind.wrap IntKind.i64 (v2_0 + 1), q8)))) else (some (.inl ((IntKind.wrap IntKind.i64 (v2_0 + 1), q8))))) else ((reasm_Stream_Reset.F k q2_b0 r16.2.1).bind fun (v8_0, q8) => (reasm_Stream_End.F k (some q8)).bind fun (v9_0, v9_1) => bif v9_1 then (some (.inl ((IntKind.wrap IntKind.i64 (v2_0 + 1), q8)))) else (some (.inl ((IntKind.wrap IntKind.i64 (v2_0 + 1), q8)))))))))) else (some (.inr true))
def law09_ReasmOver.F (k : Nat) (a0 : Int) (l1 : List (Int × Int × (List Int) × Bool)) : Option Bool := (reasm_New.F k a0).bind fun (p0, v0_1) => match p0 with | none => bif v0_1 != 0 then ((law09_alive.F k ).bind fun v1_0 => bif v1_0 then (some true) else (some false)) else ((law09_alive.F k ).bind fun v1_0 => bif v1_0 then (some true) else (some false)) | some q0 => bif v0_1 != 0 then ((law09_alive.F k ).bind fun v1_0 => bif v1_0 then (some true) else (some false)) else ((law09_alive.F k ).bind fun v1_0 => bif v1_0 then (iter (law09_ReasmOver.s2 k l1) k (0, q0)) else ((law09_alive.F k ).bind fun v2_0 => bif v2_0 then (some true) else (some false)))
abbrev law09_ReasmOver.A : Nat → LA := fun r => if r = 5 then ⟨[(34, false, [Lf.i IntKind.i64])], []⟩ else ⟨[], []⟩
set_option maxHeartbeats 4000000 in
theorem law09_ReasmOver.t (a0 : Int) (A1 : Option Addr) (n1 c1 : Nat) : tree Try.prog law09_ReasmOver.A noC Try.f4 [AV.v (Value.int IntKind.i64 a0), AV.v (Value.slice A1 n1 c1)] [] =
  .call 8 ([AV.v (Value.int IntKind.i64 a0)]) ([]) (Sh.tup [(false, 1), (false, 1)]) ([Lf.p, Lf.i IntKind.i64]) ([]) (fun x0 =>
   bif x0.2.1 != 0 then (
    .call 9 ([]) ([]) (Sh.one) ([Lf.b]) ([]) (fun x1 =>
     bif x1.1 then (
      .done (AV.v (Value.bool true)) ([]))
     else (
      .done (AV.v (Value.bool false)) ([]))))
   else (
    bif Option.isNone x0.1 then (
     .call 9 ([]) ([]) (Sh.one) ([Lf.b]) ([]) (fun x1 =>
      bif x1.1 then (
       .done (AV.v (Value.bool true)) ([]))
      else (
       .done (AV.v (Value.bool false)) ([]))))
    else (
     .call 9 ([]) ([]) (Sh.one) ([Lf.b]) ([]) (fun x1 =>
      bif x1.1 then (
       .loop ([Lf.i IntKind.i64]) ((0, PUnit.unit)) 0 (fun x2 =>
        bif decide (x2.1 < ((n1 : Nat) : Int)) then (
         .need (decide (0 ≤ x2.1) && decide (x2.1 < ((n1 : Nat) : Int)) && Option.isSome A1) (
         .ld (Option.map (fun x => Addr.add x (Int.toNat x2.1 * 4)) A1) ([Lf.i IntKind.u8, Lf.i IntKind.i64, Lf.sl, Lf.b]) (fun x3 =>
          .call 13 ([AV.v (Value.pointer x0.1)]) ([]) (Sh.one) ([Lf.b]) ([]) (fun x4 =>
           bif x4.1 then (
            .call 14 ([AV.v (Value.pointer x0.1)]) ([]) (Sh.one) ([Lf.i IntKind.i64]) ([]) (fun x5 =>
             .call 15 ([AV.v (Value.pointer x0.1)]) ([]) (Sh.one) ([Lf.b]) ([]) (fun x6 =>
              bif x6.1 then (
               .call 16 ([AV.v (Value.pointer x0.1)]) ([]) (Sh.tup [(false, 1), (false, 1)]) ([Lf.i IntKind.i64, Lf.b]) ([]) (fun x7 =>
                bif x7.2.1 then (
                 .need (true) (
                 bif Int.tmod x3.1 3 == 0 then (
                  bif x3.2.2.2.1 then (
                   .call 10 ([AV.v (Value.pointer x0.1), AV.v (Value.int IntKind.i64 x3.2.1), AV.v (Value.slice x3.2.2.1.1 x3.2.2.1.2.1 x3.2.2.1.2.2), AV.v (Value.bool true)]) ([]) (Sh.one) ([Lf.i IntKind.i64]) ([]) (fun x8 =>
                    .call 16 ([AV.v (Value.pointer x0.1)]) ([]) (Sh.tup [(false, 1), (false, 1)]) ([Lf.i IntKind.i64, Lf.b]) ([]) (fun x9 =>
                     bif x9.2.1 then (
                      .call 13 ([AV.v (Value.pointer x0.1)]) ([]) (Sh.one) ([Lf.b]) ([]) (fun x10 =>
                       bif x10.1 then (
                        .call 14 ([AV.v (Value.pointer x0.1)]) ([]) (Sh.one) ([Lf.i IntKind.i64]) ([]) (fun x11 =>
                         bif x11.1 != x5.1 then (
                          .done (AV.v (Value.bool false)) ([]))
                         else (
                          .call 15 ([AV.v (Value.pointer x0.1)]) ([]) (Sh.one) ([Lf.b]) ([]) (fun x12 =>
                           bif x12.1 then (
                            bif x9.1 != x7.1 then (
                             .done (AV.v (Value.bool false)) ([]))
                            else (
                             .again 0 ([Lf.i IntKind.i64]) ((IntKind.wrap IntKind.i64 (x2.1 + 1), PUnit.unit))))
                           else (
                            .done (AV.v (Value.bool false)) ([]))))))
                       else (
                        .done (AV.v (Value.bool false)) ([]))))
                     else (
                      .call 13 ([AV.v (Value.pointer x0.1)]) ([]) (Sh.one) ([Lf.b]) ([]) (fun x10 =>
                       bif x10.1 then (
                        .call 14 ([AV.v (Value.pointer x0.1)]) ([]) (Sh.one) ([Lf.i IntKind.i64]) ([]) (fun x11 =>
                         bif x11.1 != x5.1 then (
                          .done (AV.v (Value.bool false)) ([]))
                         else (
                          .call 15 ([AV.v (Value.pointer x0.1)]) ([]) (Sh.one) ([Lf.b]) ([]) (fun x12 =>
                           bif x12.1 then (
                            bif x9.1 != x7.1 then (
                             .done (AV.v (Value.bool false)) ([]))
                            else (
                             .done (AV.v (Value.bool false)) ([])))
                           else (
                            .done (AV.v (Value.bool false)) ([]))))))
                       else (
                        .done (AV.v (Value.bool false)) ([])))))))
                  else (
                   .call 10 ([AV.v (Value.pointer x0.1), AV.v (Value.int IntKind.i64 x3.2.1), AV.v (Value.slice x3.2.2.1.1 x3.2.2.1.2.1 x3.2.2.1.2.2), AV.v (Value.bool false)]) ([]) (Sh.one) ([Lf.i IntKind.i64]) ([]) (fun x8 =>
                    .call 16 ([AV.v (Value.pointer x0.1)]) ([]) (Sh.tup [(false, 1), (false, 1)]) ([Lf.i IntKind.i64, Lf.b]) ([]) (fun x9 =>
                     bif x9.2.1 then (
                      .call 13 ([AV.v (Value.pointer x0.1)]) ([]) (Sh.one) ([Lf.b]) ([]) (fun x10 =>
                       bif x10.1 then (
                        .call 14 ([AV.v (Value.pointer x0.1)]) ([]) (Sh.one) ([Lf.i IntKind.i64]) ([]) (fun x11 =>
                         bif x11.1 != x5.1 then (
                          .done (AV.v (Value.bool false)) ([]))
                         else (
                          .call 15 ([AV.v (Value.pointer x0.1)]) ([]) (Sh.one) ([Lf.b]) ([]) (fun x12 =>
                           bif x12.1 then (
                            bif x9.1 != x7.1 then (
                             .done (AV.v (Value.bool false)) ([]))
                            else (
                             .again 0 ([Lf.i IntKind.i64]) ((IntKind.wrap IntKind.i64 (x2.1 + 1), PUnit.unit))))
                           else (
                            .done (AV.v (Value.bool false)) ([]))))))
                       else (
                        .done (AV.v (Value.bool false)) ([]))))
                     else (
                      .call 13 ([AV.v (Value.pointer x0.1)]) ([]) (Sh.one) ([Lf.b]) ([]) (fun x10 =>
                       bif x10.1 then (
                        .call 14 ([AV.v (Value.pointer x0.1)]) ([]) (Sh.one) ([Lf.i IntKind.i64]) ([]) (fun x11 =>
                         bif x11.1 != x5.1 then (
                          .done (AV.v (Value.bool false)) ([]))
                         else (
                          .call 15 ([AV.v (Value.pointer x0.1)]) ([]) (Sh.one) ([Lf.b]) ([]) (fun x12 =>
                           bif x12.1 then (
                            bif x9.1 != x7.1 then (
                             .done (AV.v (Value.bool false)) ([]))
                            else (
                             .done (AV.v (Value.bool false)) ([])))
                           else (
                            .done (AV.v (Value.bool false)) ([]))))))
                       else (
                        .done (AV.v (Value.bool false)) ([]))))))))
                 else (
                  bif Int.tmod x3.1 3 == 1 then (
                   .call 11 ([AV.v (Value.pointer x0.1), AV.v (Value.int IntKind.i64 x3.2.1)]) ([]) (Sh.one) ([Lf.sl]) ([]) (fun x8 =>
                    bif ((x8.1.2.1 : Nat) : Int) != 0 then (
                     .done (AV.v (Value.bool false)) ([]))
                    else (
                     .call 11 ([AV.v (Value.pointer x0.1), AV.v (Value.int IntKind.i64 x3.2.1)]) ([]) (Sh.one) ([Lf.sl]) ([]) (fun x9 =>
                      .call 16 ([AV.v (Value.pointer x0.1)]) ([]) (Sh.tup [(false, 1), (false, 1)]) ([Lf.i IntKind.i64, Lf.b]) ([]) (fun x10 =>
                       bif x10.2.1 then (
                        .call 13 ([AV.v (Value.pointer x0.1)]) ([]) (Sh.one) ([Lf.b]) ([]) (fun x11 =>
                         bif x11.1 then (
                          .call 14 ([AV.v (Value.pointer x0.1)]) ([]) (Sh.one) ([Lf.i IntKind.i64]) ([]) (fun x12 =>
                           bif x12.1 != x5.1 then (
                            .done (AV.v (Value.bool false)) ([]))
                           else (
                            .call 15 ([AV.v (Value.pointer x0.1)]) ([]) (Sh.one) ([Lf.b]) ([]) (fun x13 =>
                             bif x13.1 then (
                              bif x10.1 != x7.1 then (
                               .done (AV.v (Value.bool false)) ([]))
                              else (
                               .again 0 ([Lf.i IntKind.i64]) ((IntKind.wrap IntKind.i64 (x2.1 + 1), PUnit.unit))))
                             else (
                              .done (AV.v (Value.bool false)) ([]))))))
                         else (
                          .done (AV.v (Value.bool false)) ([]))))
                       else (
                        .call 13 ([AV.v (Value.pointer x0.1)]) ([]) (Sh.one) ([Lf.b]) ([]) (fun x11 =>
                         bif x11.1 then (
                          .call 14 ([AV.v (Value.pointer x0.1)]) ([]) (Sh.one) ([Lf.i IntKind.i64]) ([]) (fun x12 =>
                           bif x12.1 != x5.1 then (
                            .done (AV.v (Value.bool false)) ([]))
                           else (
                            .call 15 ([AV.v (Value.pointer x0.1)]) ([]) (Sh.one) ([Lf.b]) ([]) (fun x13 =>
                             bif x13.1 then (
                              bif x10.1 != x7.1 then (
                               .done (AV.v (Value.bool false)) ([]))
                              else (
                               .done (AV.v (Value.bool false)) ([])))
                             else (
                              .done (AV.v (Value.bool false)) ([]))))))
                         else (
                          .done (AV.v (Value.bool false)) ([])))))))))
                  else (
                   .call 17 ([AV.v (Value.pointer x0.1), AV.v (Value.int IntKind.i64 x3.2.1)]) ([]) (Sh.one) ([Lf.i IntKind.i64]) ([]) (fun x8 =>
                    .call 16 ([AV.v (Value.pointer x0.1)]) ([]) (Sh.tup [(false, 1), (false, 1)]) ([Lf.i IntKind.i64, Lf.b]) ([]) (fun x9 =>
                     bif x9.2.1 then (
                      .call 13 ([AV.v (Value.pointer x0.1)]) ([]) (Sh.one) ([Lf.b]) ([]) (fun x10 =>
                       bif x10.1 then (
                        .call 14 ([AV.v (Value.pointer x0.1)]) ([]) (Sh.one) ([Lf.i IntKind.i64]) ([]) (fun x11 =>
                         bif x11.1 != x5.1 then (
                          .done (AV.v (Value.bool false)) ([]))
                         else (
                          .call 15 ([AV.v (Value.pointer x0.1)]) ([]) (Sh.one) ([Lf.b]) ([]) (fun x12 =>
                           bif x12.1 then (
                            bif x9.1 != x7.1 then (
                             .done (AV.v (Value.bool false)) ([]))
                            else (
                             .again 0 ([Lf.i IntKind.i64]) ((IntKind.wrap IntKind.i64 (x2.1 + 1), PUnit.unit))))
                           else (
                            .done (AV.v (Value.bool false)) ([]))))))
                       else (
                        .done (AV.v (Value.bool false)) ([]))))
                     else (
                      .call 13 ([AV.v (Value.pointer x0.1)]) ([]) (Sh.one) ([Lf.b]) ([]) (fun x10 =>
                       bif x10.1 then (
                        .call 14 ([AV.v (Value.pointer x0.1)]) ([]) (Sh.one) ([Lf.i IntKind.i64]) ([]) (fun x11 =>
                         bif x11.1 != x5.1 then (
                          .done (AV.v (Value.bool false)) ([]))
                         else (
                          .call 15 ([AV.v (Value.pointer x0.1)]) ([]) (Sh.one) ([Lf.b]) ([]) (fun x12 =>
                           bif x12.1 then (
                            bif x9.1 != x7.1 then (
                             .done (AV.v (Value.bool false)) ([]))
                            else (
                             .done (AV.v (Value.bool false)) ([])))
                           else (
                            .done (AV.v (Value.bool false)) ([]))))))
                       else (
                        .done (AV.v (Value.bool false)) ([]))))))))))
                else (
                 .need (true) (
                 bif Int.tmod x3.1 3 == 0 then (
                  bif x3.2.2.2.1 then (
                   .call 10 ([AV.v (Value.pointer x0.1), AV.v (Value.int IntKind.i64 x3.2.1), AV.v (Value.slice x3.2.2.1.1 x3.2.2.1.2.1 x3.2.2.1.2.2), AV.v (Value.bool true)]) ([]) (Sh.one) ([Lf.i IntKind.i64]) ([]) (fun x8 =>
                    .call 16 ([AV.v (Value.pointer x0.1)]) ([]) (Sh.tup [(false, 1), (false, 1)]) ([Lf.i IntKind.i64, Lf.b]) ([]) (fun x9 =>
                     bif x9.2.1 then (
                      .call 13 ([AV.v (Value.pointer x0.1)]) ([]) (Sh.one) ([Lf.b]) ([]) (fun x10 =>
                       bif x10.1 then (
                        .call 14 ([AV.v (Value.pointer x0.1)]) ([]) (Sh.one) ([Lf.i IntKind.i64]) ([]) (fun x11 =>
                         bif x11.1 != x5.1 then (
                          .done (AV.v (Value.bool false)) ([]))
                         else (
                          .call 15 ([AV.v (Value.pointer x0.1)]) ([]) (Sh.one) ([Lf.b]) ([]) (fun x12 =>
                           bif x12.1 then (
                            bif x9.1 != x7.1 then (
                             .done (AV.v (Value.bool false)) ([]))
                            else (
                             .again 0 ([Lf.i IntKind.i64]) ((IntKind.wrap IntKind.i64 (x2.1 + 1), PUnit.unit))))
                           else (
                            .done (AV.v (Value.bool false)) ([]))))))
                       else (
                        .done (AV.v (Value.bool false)) ([]))))
                     else (
                      .call 13 ([AV.v (Value.pointer x0.1)]) ([]) (Sh.one) ([Lf.b]) ([]) (fun x10 =>
                       bif x10.1 then (
                        .call 14 ([AV.v (Value.pointer x0.1)]) ([]) (Sh.one) ([Lf.i IntKind.i64]) ([]) (fun x11 =>
                         bif x11.1 != x5.1 then (
                          .done (AV.v (Value.bool false)) ([]))
                         else (
                          .call 15 ([AV.v (Value.pointer x0.1)]) ([]) (Sh.one) ([Lf.b]) ([]) (fun x12 =>
                           bif x12.1 then (
                            bif x9.1 != x7.1 then (
                             .done (AV.v (Value.bool false)) ([]))
                            else (
                             .done (AV.v (Value.bool false)) ([])))
                           else (
                            .done (AV.v (Value.bool false)) ([]))))))
                       else (
                        .done (AV.v (Value.bool false)) ([])))))))
                  else (
                   .call 10 ([AV.v (Value.pointer x0.1), AV.v (Value.int IntKind.i64 x3.2.1), AV.v (Value.slice x3.2.2.1.1 x3.2.2.1.2.1 x3.2.2.1.2.2), AV.v (Value.bool false)]) ([]) (Sh.one) ([Lf.i IntKind.i64]) ([]) (fun x8 =>
                    .call 16 ([AV.v (Value.pointer x0.1)]) ([]) (Sh.tup [(false, 1), (false, 1)]) ([Lf.i IntKind.i64, Lf.b]) ([]) (fun x9 =>
                     bif x9.2.1 then (
                      .call 13 ([AV.v (Value.pointer x0.1)]) ([]) (Sh.one) ([Lf.b]) ([]) (fun x10 =>
                       bif x10.1 then (
                        .call 14 ([AV.v (Value.pointer x0.1)]) ([]) (Sh.one) ([Lf.i IntKind.i64]) ([]) (fun x11 =>
                         bif x11.1 != x5.1 then (
                          .done (AV.v (Value.bool false)) ([]))
                         else (
                          .call 15 ([AV.v (Value.pointer x0.1)]) ([]) (Sh.one) ([Lf.b]) ([]) (fun x12 =>
                           bif x12.1 then (
                            bif x9.1 != x7.1 then (
                             .done (AV.v (Value.bool false)) ([]))
                            else (
                             .again 0 ([Lf.i IntKind.i64]) ((IntKind.wrap IntKind.i64 (x2.1 + 1), PUnit.unit))))
                           else (
                            .done (AV.v (Value.bool false)) ([]))))))
                       else (
                        .done (AV.v (Value.bool false)) ([]))))
                     else (
                      .call 13 ([AV.v (Value.pointer x0.1)]) ([]) (Sh.one) ([Lf.b]) ([]) (fun x10 =>
                       bif x10.1 then (
                        .call 14 ([AV.v (Value.pointer x0.1)]) ([]) (Sh.one) ([Lf.i IntKind.i64]) ([]) (fun x11 =>
                         bif x11.1 != x5.1 then (
                          .done (AV.v (Value.bool false)) ([]))
                         else (
                          .call 15 ([AV.v (Value.pointer x0.1)]) ([]) (Sh.one) ([Lf.b]) ([]) (fun x12 =>
                           bif x12.1 then (
                            bif x9.1 != x7.1 then (
                             .done (AV.v (Value.bool false)) ([]))
                            else (
                             .done (AV.v (Value.bool false)) ([])))
                           else (
                            .done (AV.v (Value.bool false)) ([]))))))
                       else (
                        .done (AV.v (Value.bool false)) ([]))))))))
                 else (
                  bif Int.tmod x3.1 3 == 1 then (
                   .call 11 ([AV.v (Value.pointer x0.1), AV.v (Value.int IntKind.i64 x3.2.1)]) ([]) (Sh.one) ([Lf.sl]) ([]) (fun x8 =>
                    bif ((x8.1.2.1 : Nat) : Int) != 0 then (
                     .done (AV.v (Value.bool false)) ([]))
                    else (
                     .call 11 ([AV.v (Value.pointer x0.1), AV.v (Value.int IntKind.i64 x3.2.1)]) ([]) (Sh.one) ([Lf.sl]) ([]) (fun x9 =>
                      .call 16 ([AV.v (Value.pointer x0.1)]) ([]) (Sh.tup [(false, 1), (false, 1)]) ([Lf.i IntKind.i64, Lf.b]) ([]) (fun x10 =>
                       bif x10.2.1 then (
                        .call 13 ([AV.v (Value.pointer x0.1)]) ([]) (Sh.one) ([Lf.b]) ([]) (fun x11 =>
                         bif x11.1 then (
                          .call 14 ([AV.v (Value.pointer x0.1)]) ([]) (Sh.one) ([Lf.i IntKind.i64]) ([]) (fun x12 =>
                           bif x12.1 != x5.1 then (
                            .done (AV.v (Value.bool false)) ([]))
                           else (
                            .call 15 ([AV.v (Value.pointer x0.1)]) ([]) (Sh.one) ([Lf.b]) ([]) (fun x13 =>
                             bif x13.1 then (
                              bif x10.1 != x7.1 then (
                               .done (AV.v (Value.bool false)) ([]))
                              else (
                               .again 0 ([Lf.i IntKind.i64]) ((IntKind.wrap IntKind.i64 (x2.1 + 1), PUnit.unit))))
                             else (
                              .done (AV.v (Value.bool false)) ([]))))))
                         else (
                          .done (AV.v (Value.bool false)) ([]))))
                       else (
                        .call 13 ([AV.v (Value.pointer x0.1)]) ([]) (Sh.one) ([Lf.b]) ([]) (fun x11 =>
                         bif x11.1 then (
                          .call 14 ([AV.v (Value.pointer x0.1)]) ([]) (Sh.one) ([Lf.i IntKind.i64]) ([]) (fun x12 =>
                           bif x12.1 != x5.1 then (
                            .done (AV.v (Value.bool false)) ([]))
                           else (
                            .call 15 ([AV.v (Value.pointer x0.1)]) ([]) (Sh.one) ([Lf.b]) ([]) (fun x13 =>
                             bif x13.1 then (
                              bif x10.1 != x7.1 then (
                               .done (AV.v (Value.bool false)) ([]))
                              else (
                               .done (AV.v (Value.bool false)) ([])))
                             else (
                              .done (AV.v (Value.bool false)) ([]))))))
                         else (
                          .done (AV.v (Value.bool false)) ([])))))))))
                  else (
                   .call 17 ([AV.v (Value.pointer x0.1), AV.v (Value.int IntKind.i64 x3.2.1)]) ([]) (Sh.one) ([Lf.i IntKind.i64]) ([]) (fun x8 =>
                    .call 16 ([AV.v (Value.pointer x0.1)]) ([]) (Sh.tup [(false, 1), (false, 1)]) ([Lf.i IntKind.i64, Lf.b]) ([]) (fun x9 =>
                     bif x9.2.1 then (
                      .call 13 ([AV.v (Value.pointer x0.1)]) ([]) (Sh.one) ([Lf.b]) ([]) (fun x10 =>
                       bif x10.1 then (
                        .call 14 ([AV.v (Value.pointer x0.1)]) ([]) (Sh.one) ([Lf.i IntKind.i64]) ([]) (fun x11 =>
                         bif x11.1 != x5.1 then (
                          .done (AV.v (Value.bool false)) ([]))
                         else (
                          .call 15 ([AV.v (Value.pointer x0.1)]) ([]) (Sh.one) ([Lf.b]) ([]) (fun x12 =>
                           bif x12.1 then (
                            bif x9.1 != x7.1 then (
                             .done (AV.v (Value.bool false)) ([]))
                            else (
                             .again 0 ([Lf.i IntKind.i64]) ((IntKind.wrap IntKind.i64 (x2.1 + 1), PUnit.unit))))
                           else (
                            .done (AV.v (Value.bool false)) ([]))))))
                       else (
                        .done (AV.v (Value.bool false)) ([]))))
                     else (
                      .call 13 ([AV.v (Value.pointer x0.1)]) ([]) (Sh.one) ([Lf.b]) ([]) (fun x10 =>
                       bif x10.1 then (
                        .call 14 ([AV.v (Value.pointer x0.1)]) ([]) (Sh.one) ([Lf.i IntKind.i64]) ([]) (fun x11 =>
                         bif x11.1 != x5.1 then (
                          .done (AV.v (Value.bool false)) ([]))
                         else (
                          .call 15 ([AV.v (Value.pointer x0.1)]) ([]) (Sh.one) ([Lf.b]) ([]) (fun x12 =>
                           bif x12.1 then (
                            bif x9.1 != x7.1 then (
                             .done (AV.v (Value.bool false)) ([]))
                            else (
                             .done (AV.v (Value.bool false)) ([])))
                           else (
                            .done (AV.v (Value.bool false)) ([]))))))
                       else (
                        .done (AV.v (Value.bool false)) ([]))))))))))))
              else (
               .call 16 ([AV.v (Value.pointer x0.1)]) ([]) (Sh.tup [(false, 1), (false, 1)]) ([Lf.i IntKind.i64, Lf.b]) ([]) (fun x7 =>
                bif x7.2.1 then (
                 .need (true) (
                 bif Int.tmod x3.1 3 == 0 then (
                  bif x3.2.2.2.1 then (
                   .call 10 ([AV.v (Value.pointer x0.1), AV.v (Value.int IntKind.i64 x3.2.1), AV.v (Value.slice x3.2.2.1.1 x3.2.2.1.2.1 x3.2.2.1.2.2), AV.v (Value.bool true)]) ([]) (Sh.one) ([Lf.i IntKind.i64]) ([]) (fun x8 =>
                    .call 16 ([AV.v (Value.pointer x0.1)]) ([]) (Sh.tup [(false, 1), (false, 1)]) ([Lf.i IntKind.i64, Lf.b]) ([]) (fun x9 =>
                     bif x9.2.1 then (
                      .call 13 ([AV.v (Value.pointer x0.1)]) ([]) (Sh.one) ([Lf.b]) ([]) (fun x10 =>
                       bif x10.1 then (
                        .call 14 ([AV.v (Value.pointer x0.1)]) ([]) (Sh.one) ([Lf.i IntKind.i64]) ([]) (fun x11 =>
                         bif x11.1 != x5.1 then (
                          .done (AV.v (Value.bool false)) ([]))
                         else (
                          .call 15 ([AV.v (Value.pointer x0.1)]) ([]) (Sh.one) ([Lf.b]) ([]) (fun x12 =>
                           bif x12.1 then (
                            .done (AV.v (Value.bool false)) ([]))
                           else (
                            bif x9.1 != x7.1 then (
                             .done (AV.v (Value.bool false)) ([]))
                            else (
                             .again 0 ([Lf.i IntKind.i64]) ((IntKind.wrap IntKind.i64 (x2.1 + 1), PUnit.unit))))))))
                       else (
                        .done (AV.v (Value.bool false)) ([]))))
                     else (
                      .call 13 ([AV.v (Value.pointer x0.1)]) ([]) (Sh.one) ([Lf.b]) ([]) (fun x10 =>
                       bif x10.1 then (
                        .call 14 ([AV.v (Value.pointer x0.1)]) ([]) (Sh.one) ([Lf.i IntKind.i64]) ([]) (fun x11 =>
                         bif x11.1 != x5.1 then (
                          .done (AV.v (Value.bool false)) ([]))
                         else (
                          .call 15 ([AV.v (Value.pointer x0.1)]) ([]) (Sh.one) ([Lf.b]) ([]) (fun x12 =>
                           bif x12.1 then (
                            .done (AV.v (Value.bool false)) ([]))
                           else (
                            bif x9.1 != x7.1 then (
                             .done (AV.v (Value.bool false)) ([]))
                            else (
                             .done (AV.v (Value.bool false)) ([])))))))
                       else (
                        .done (AV.v (Value.bool false)) ([])))))))
                  else (
                   .call 10 ([AV.v (Value.pointer x0.1), AV.v (Value.int IntKind.i64 x3.2.1), AV.v (Value.slice x3.2.2.1.1 x3.2.2.1.2.1 x3.2.2.1.2.2), AV.v (Value.bool false)]) ([]) (Sh.one) ([Lf.i IntKind.i64]) ([]) (fun x8 =>
                    .call 16 ([AV.v (Value.pointer x0.1)]) ([]) (Sh.tup [(false, 1), (false, 1)]) ([Lf.i IntKind.i64, Lf.b]) ([]) (fun x9 =>
                     bif x9.2.1 then (
                      .call 13 ([AV.v (Value.pointer x0.1)]) ([]) (Sh.one) ([Lf.b]) ([]) (fun x10 =>
                       bif x10.1 then (
                        .call 14 ([AV.v (Value.pointer x0.1)]) ([]) (Sh.one) ([Lf.i IntKind.i64]) ([]) (fun x11 =>
                         bif x11.1 != x5.1 then (
                          .done (AV.v (Value.bool false)) ([]))
                         else (
                          .call 15 ([AV.v (Value.pointer x0.1)]) ([]) (Sh.one) ([Lf.b]) ([]) (fun x12 =>
                           bif x12.1 then (
                            .done (AV.v (Value.bool false)) ([]))
                           else (
                            bif x9.1 != x7.1 then (
                             .done (AV.v (Value.bool false)) ([]))
                            else (
                             .again 0 ([Lf.i IntKind.i64]) ((IntKind.wrap IntKind.i64 (x2.1 + 1), PUnit.unit))))))))
                       else (
                        .done (AV.v (Value.bool false)) ([]))))
                     else (
                      .call 13 ([AV.v (Value.pointer x0.1)]) ([]) (Sh.one) ([Lf.b]) ([]) (fun x10 =>
                       bif x10.1 then (
                        .call 14 ([AV.v (Value.pointer x0.1)]) ([]) (Sh.one) ([Lf.i IntKind.i64]) ([]) (fun x11 =>
                         bif x11.1 != x5.1 then (
                          .done (AV.v (Value.bool false)) ([]))
                         else (
                          .call 15 ([AV.v (Value.pointer x0.1)]) ([]) (Sh.one) ([Lf.b]) ([]) (fun x12 =>
                           bif x12.1 then (
                            .done (AV.v (Value.bool false)) ([]))
                           else (
                            bif x9.1 != x7.1 then (
                             .done (AV.v (Value.bool false)) ([]))
                            else (
                             .done (AV.v (Value.bool false)) ([])))))))
                       else (
                        .done (AV.v (Value.bool false)) ([]))))))))
                 else (
                  bif Int.tmod x3.1 3 == 1 then (
                   .call 11 ([AV.v (Value.pointer x0.1), AV.v (Value.int IntKind.i64 x3.2.1)]) ([]) (Sh.one) ([Lf.sl]) ([]) (fun x8 =>
                    bif ((x8.1.2.1 : Nat) : Int) != 0 then (
                     .done (AV.v (Value.bool false)) ([]))
                    else (
                     .call 11 ([AV.v (Value.pointer x0.1), AV.v (Value.int IntKind.i64 x3.2.1)]) ([]) (Sh.one) ([Lf.sl]) ([]) (fun x9 =>
                      .call 16 ([AV.v (Value.pointer x0.1)]) ([]) (Sh.tup [(false, 1), (false, 1)]) ([Lf.i IntKind.i64, Lf.b]) ([]) (fun x10 =>
                       bif x10.2.1 then (
                        .call 13 ([AV.v (Value.pointer x0.1)]) ([]) (Sh.one) ([Lf.b]) ([]) (fun x11 =>
                         bif x11.1 then (
                          .call 14 ([AV.v (Value.pointer x0.1)]) ([]) (Sh.one) ([Lf.i IntKind.i64]) ([]) (fun x12 =>
                           bif x12.1 != x5.1 then (
                            .done (AV.v (Value.bool false)) ([]))
                           else (
                            .call 15 ([AV.v (Value.pointer x0.1)]) ([]) (Sh.one) ([Lf.b]) ([]) (fun x13 =>
                             bif x13.1 then (
                              .done (AV.v (Value.bool false)) ([]))
                             else (
                              bif x10.1 != x7.1 then (
                               .done (AV.v (Value.bool false)) ([]))
                              else (
                               .again 0 ([Lf.i IntKind.i64]) ((IntKind.wrap IntKind.i64 (x2.1 + 1), PUnit.unit))))))))
                         else (
                          .done (AV.v (Value.bool false)) ([]))))
                       else (
                        .call 13 ([AV.v (Value.pointer x0.1)]) ([]) (Sh.one) ([Lf.b]) ([]) (fun x11 =>
                         bif x11.1 then (
                          .call 14 ([AV.v (Value.pointer x0.1)]) ([]) (Sh.one) ([Lf.i IntKind.i64]) ([]) (fun x12 =>
                           bif x12.1 != x5.1 then (
                            .done (AV.v (Value.bool false)) ([]))
                           else (
                            .call 15 ([AV.v (Value.pointer x0.1)]) ([]) (Sh.one) ([Lf.b]) ([]) (fun x13 =>
                             bif x13.1 then (
                              .done (AV.v (Value.bool false)) ([]))
                             else (
                              bif x10.1 != x7.1 then (
                               .done (AV.v (Value.bool false)) ([]))
                              else (
                               .done (AV.v (Value.bool false)) ([])))))))
                         else (
                          .done (AV.v (Value.bool false)) ([])))))))))
                  else (
                   .call 17 ([AV.v (Value.pointer x0.1), AV.v (Value.int IntKind.i64 x3.2.1)]) ([]) (Sh.one) ([Lf.i IntKind.i64]) ([]) (fun x8 =>
                    .call 16 ([AV.v (Value.pointer x0.1)]) ([]) (Sh.tup [(false, 1), (false, 1)]) ([Lf.i IntKind.i64, Lf.b]) ([]) (fun x9 =>
                     bif x9.2.1 then (
                      .call 13 ([AV.v (Value.pointer x0.1)]) ([]) (Sh.one) ([Lf.b]) ([]) (fun x10 =>
                       bif x10.1 then (
                        .call 14 ([AV.v (Value.pointer x0.1)]) ([]) (Sh.one) ([Lf.i IntKind.i64]) ([]) (fun x11 =>
                         bif x11.1 != x5.1 then (
                          .done (AV.v (Value.bool false)) ([]))
                         else (
                          .call 15 ([AV.v (Value.pointer x0.1)]) ([]) (Sh.one) ([Lf.b]) ([]) (fun x12 =>
                           bif x12.1 then (
                            .done (AV.v (Value.bool false)) ([]))
                           else (
                            bif x9.1 != x7.1 then (
                             .done (AV.v (Value.bool false)) ([]))
                            else (
                             .again 0 ([Lf.i IntKind.i64]) ((IntKind.wrap IntKind.i64 (x2.1 + 1), PUnit.unit))))))))
                       else (
                        .done (AV.v (Value.bool false)) ([]))))
                     else (
                      .call 13 ([AV.v (Value.pointer x0.1)]) ([]) (Sh.one) ([Lf.b]) ([]) (fun x10 =>
                       bif x10.1 then (
                        .call 14 ([AV.v (Value.pointer x0.1)]) ([]) (Sh.one) ([Lf.i IntKind.i64]) ([]) (fun x11 =>
                         bif x11.1 != x5.1 then (
                          .done (AV.v (Value.bool false)) ([]))
                         else (
                          .call 15 ([AV.v (Value.pointer x0.1)]) ([]) (Sh.one) ([Lf.b]) ([]) (fun x12 =>
                           bif x12.1 then (
                            .done (AV.v (Value.bool false)) ([]))
                           else (
                            bif x9.1 != x7.1 then (
                             .done (AV.v (Value.bool false)) ([]))
                            else (
                             .done (AV.v (Value.bool false)) ([])))))))
                       else (
                        .done (AV.v (Value.bool false)) ([]))))))))))
                else (
                 .need (true) (
                 bif Int.tmod x3.1 3 == 0 then (
                  bif x3.2.2.2.1 then (
                   .call 10 ([AV.v (Value.pointer x0.1), AV.v (Value.int IntKind.i64 x3.2.1), AV.v (Value.slice x3.2.2.1.1 x3.2.2.1.2.1 x3.2.2.1.2.2), AV.v (Value.bool true)]) ([]) (Sh.one) ([Lf.i IntKind.i64]) ([]) (fun x8 =>
                    .call 16 ([AV.v (Value.pointer x0.1)]) ([]) (Sh.tup [(false, 1), (false, 1)]) ([Lf.i IntKind.i64, Lf.b]) ([]) (fun x9 =>
                     bif x9.2.1 then (
                      .call 13 ([AV.v (Value.pointer x0.1)]) ([]) (Sh.one) ([Lf.b]) ([]) (fun x10 =>
                       bif x10.1 then (
                        .call 14 ([AV.v (Value.pointer x0.1)]) ([]) (Sh.one) ([Lf.i IntKind.i64]) ([]) (fun x11 =>
                         bif x11.1 != x5.1 then (
                          .done (AV.v (Value.bool false)) ([]))
                         else (
                          .call 15 ([AV.v (Value.pointer x0.1)]) ([]) (Sh.one) ([Lf.b]) ([]) (fun x12 =>
                           bif x12.1 then (
                            .done (AV.v (Value.bool false)) ([]))
                           else (
                            bif x9.1 != x7.1 then (
                             .done (AV.v (Value.bool false)) ([]))
                            else (
                             .again 0 ([Lf.i IntKind.i64]) ((IntKind.wrap IntKind.i64 (x2.1 + 1), PUnit.unit))))))))
                       else (
                        .done (AV.v (Value.bool false)) ([]))))
                     else (
                      .call 13 ([AV.v (Value.pointer x0.1)]) ([]) (Sh.one) ([Lf.b]) ([]) (fun x10 =>
                       bif x10.1 then (
                        .call 14 ([AV.v (Value.pointer x0.1)]) ([]) (Sh.one) ([Lf.i IntKind.i64]) ([]) (fun x11 =>
                         bif x11.1 != x5.1 then (
                          .done (AV.v (Value.bool false)) ([]))
                         else (
                          .call 15 ([AV.v (Value.pointer x0.1)]) ([]) (Sh.one) ([Lf.b]) ([]) (fun x12 =>
                           bif x12.1 then (
                            .done (AV.v (Value.bool false)) ([]))
                           else (
                            bif x9.1 != x7.1 then (
                             .done (AV.v (Value.bool false)) ([]))
                            else (
                             .done (AV.v (Value.bool false)) ([])))))))
                       else (
                        .done (AV.v (Value.bool false)) ([])))))))
                  else (
                   .call 10 ([AV.v (Value.pointer x0.1), AV.v (Value.int IntKind.i64 x3.2.1), AV.v (Value.slice x3.2.2.1.1 x3.2.2.1.2.1 x3.2.2.1.2.2), AV.v (Value.bool false)]) ([]) (Sh.one) ([Lf.i IntKind.i64]) ([]) (fun x8 =>
                    .call 16 ([AV.v (Value.pointer x0.1)]) ([]) (Sh.tup [(false, 1), (false, 1)]) ([Lf.i IntKind.i64, Lf.b]) ([]) (fun x9 =>
                     bif x9.2.1 then (
                      .call 13 ([AV.v (Value.pointer x0.1)]) ([]) (Sh.one) ([Lf.b]) ([]) (fun x10 =>
                       bif x10.1 then (
                        .call 14 ([AV.v (Value.pointer x0.1)]) ([]) (Sh.one) ([Lf.i IntKind.i64]) ([]) (fun x11 =>
                         bif x11.1 != x5.1 then (
                          .done (AV.v (Value.bool false)) ([]))
                         else (
                          .call 15 ([AV.v (Value.pointer x0.1)]) ([]) (Sh.one) ([Lf.b]) ([]) (fun x12 =>
                           bif x12.1 then (
                            .done (AV.v (Value.bool false)) ([]))
                           else (
                            bif x9.1 != x7.1 then (
                             .done (AV.v (Value.bool false)) ([]))
                            else (
                             .again 0 ([Lf.i IntKind.i64]) ((IntKind.wrap IntKind.i64 (x2.1 + 1), PUnit.unit))))))))
                       else (
                        .done (AV.v (Value.bool false)) ([]))))
                     else (
                      .call 13 ([AV.v (Value.pointer x0.1)]) ([]) (Sh.one) ([Lf.b]) ([]) (fun x10 =>
                       bif x10.1 then (
                        .call 14 ([AV.v (Value.pointer x0.1)]) ([]) (Sh.one) ([Lf.i IntKind.i64]) ([]) (fun x11 =>
                         bif x11.1 != x5.1 then (
                          .done (AV.v (Value.bool false)) ([]))
                         else (
                          .call 15 ([AV.v (Value.pointer x0.1)]) ([]) (Sh.one) ([Lf.b]) ([]) (fun x12 =>
                           bif x12.1 then (
                            .done (AV.v (Value.bool false)) ([]))
                           else (
                            bif x9.1 != x7.1 then (
                             .done (AV.v (Value.bool false)) ([]))
                            else (
                             .done (AV.v (Value.bool false)) ([])))))))
                       else (
                        .done (AV.v (Value.bool false)) ([]))))))))
                 else (
                  bif Int.tmod x3.1 3 == 1 then (
                   .call 11 ([AV.v (Value.pointer x0.1), AV.v (Value.int IntKind.i64 x3.2.1)]) ([]) (Sh.one) ([Lf.sl]) ([]) (fun x8 =>
                    bif ((x8.1.2.1 : Nat) : Int) != 0 then (
                     .done (AV.v (Value.bool false)) ([]))
                    else (
                     .call 11 ([AV.v (Value.pointer x0.1), AV.v (Value.int IntKind.i64 x3.2.1)]) ([]) (Sh.one) ([Lf.sl]) ([]) (fun x9 =>
                      .call 16 ([AV.v (Value.pointer x0.1)]) ([]) (Sh.tup [(false, 1), (false, 1)]) ([Lf.i IntKind.i64, Lf.b]) ([]) (fun x10 =>
                       bif x10.2.1 then (
                        .call 13 ([AV.v (Value.pointer x0.1)]) ([]) (Sh.one) ([Lf.b]) ([]) (fun x11 =>
                         bif x11.1 then (
                          .call 14 ([AV.v (Value.pointer x0.1)]) ([]) (Sh.one) ([Lf.i IntKind.i64]) ([]) (fun x12 =>
                           bif x12.1 != x5.1 then (
                            .done (AV.v (Value.bool false)) ([]))
                           else (
                            .call 15 ([AV.v (Value.pointer x0.1)]) ([]) (Sh.one) ([Lf.b]) ([]) (fun x13 =>
                             bif x13.1 then (
                              .done (AV.v (Value.bool false)) ([]))
                             else (
                              bif x10.1 != x7.1 then (
                               .done (AV.v (Value.bool false)) ([]))
                              else (
                               .again 0 ([Lf.i IntKind.i64]) ((IntKind.wrap IntKind.i64 (x2.1 + 1), PUnit.unit))))))))
                         else (
                          .done (AV.v (Value.bool false)) ([]))))
                       else (
                        .call 13 ([AV.v (Value.pointer x0.1)]) ([]) (Sh.one) ([Lf.b]) ([]) (fun x11 =>
                         bif x11.1 then (
                          .call 14 ([AV.v (Value.pointer x0.1)]) ([]) (Sh.one) ([Lf.i IntKind.i64]) ([]) (fun x12 =>
                           bif x12.1 != x5.1 then (
                            .done (AV.v (Value.bool false)) ([]))
                           else (
                            .call 15 ([AV.v (Value.pointer x0.1)]) ([]) (Sh.one) ([Lf.b]) ([]) (fun x13 =>
                             bif x13.1 then (
                              .done (AV.v (Value.bool false)) ([]))
                             else (
                              bif x10.1 != x7.1 then (
                               .done (AV.v (Value.bool false)) ([]))
                              else (
                               .done (AV.v (Value.bool false)) ([])))))))
                         else (
                          .done (AV.v (Value.bool false)) ([])))))))))
                  else (
                   .call 17 ([AV.v (Value.pointer x0.1), AV.v (Value.int IntKind.i64 x3.2.1)]) ([]) (Sh.one) ([Lf.i IntKind.i64]) ([]) (fun x8 =>
                    .call 16 ([AV.v (Value.pointer x0.1)]) ([]) (Sh.tup [(false, 1), (false, 1)]) ([Lf.i IntKind.i64, Lf.b]) ([]) (fun x9 =>
                     bif x9.2.1 then (
                      .call 13 ([AV.v (Value.pointer x0.1)]) ([]) (Sh.one) ([Lf.b]) ([]) (fun x10 =>
                       bif x10.1 then (
                        .call 14 ([AV.v (Value.pointer x0.1)]) ([]) (Sh.one) ([Lf.i IntKind.i64]) ([]) (fun x11 =>
                         bif x11.1 != x5.1 then (
                          .done (AV.v (Value.bool false)) ([]))
                         else (
                          .call 15 ([AV.v (Value.pointer x0.1)]) ([]) (Sh.one) ([Lf.b]) ([]) (fun x12 =>
                           bif x12.1 then (
                            .done (AV.v (Value.bool false)) ([]))
                           else (
                            bif x9.1 != x7.1 then (
                             .done (AV.v (Value.bool false)) ([]))
                            else (
                             .again 0 ([Lf.i IntKind.i64]) ((IntKind.wrap IntKind.i64 (x2.1 + 1), PUnit.unit))))))))
                       else (
                        .done (AV.v (Value.bool false)) ([]))))
                     else (
                      .call 13 ([AV.v (Value.pointer x0.1)]) ([]) (Sh.one) ([Lf.b]) ([]) (fun x10 =>
                       bif x10.1 then (
                        .call 14 ([AV.v (Value.pointer x0.1)]) ([]) (Sh.one) ([Lf.i IntKind.i64]) ([]) (fun x11 =>
                         bif x11.1 != x5.1 then (
                          .done (AV.v (Value.bool false)) ([]))
                         else (
                          .call 15 ([AV.v (Value.pointer x0.1)]) ([]) (Sh.one) ([Lf.b]) ([]) (fun x12 =>
                           bif x12.1 then (
                            .done (AV.v (Value.bool false)) ([]))
                           else (
                            bif x9.1 != x7.1 then (
                             .done (AV.v (Value.bool false)) ([]))
                            else (
                             .done (AV.v (Value.bool false)) ([])))))))
                       else (
                        .done (AV.v (Value.bool false)) ([])))))))))))))))
           else (
            .call 14 ([AV.v (Value.pointer x0.1)]) ([]) (Sh.one) ([Lf.i IntKind.i64]) ([]) (fun x5 =>
             .call 15 ([AV.v (Value.pointer x0.1)]) ([]) (Sh.one) ([Lf.b]) ([]) (fun x6 =>
              bif x6.1 then (
               .call 16 ([AV.v (Value.pointer x0.1)]) ([]) (Sh.tup [(false, 1), (false, 1)]) ([Lf.i IntKind.i64, Lf.b]) ([]) (fun x7 =>
                bif x7.2.1 then (
                 .need (true) (
                 bif Int.tmod x3.1 3 == 0 then (
                  bif x3.2.2.2.1 then (
                   .call 10 ([AV.v (Value.pointer x0.1), AV.v (Value.int IntKind.i64 x3.2.1), AV.v (Value.slice x3.2.2.1.1 x3.2.2.1.2.1 x3.2.2.1.2.2), AV.v (Value.bool true)]) ([]) (Sh.one) ([Lf.i IntKind.i64]) ([]) (fun x8 =>
                    .call 16 ([AV.v (Value.pointer x0.1)]) ([]) (Sh.tup [(false, 1), (false, 1)]) ([Lf.i IntKind.i64, Lf.b]) ([]) (fun x9 =>
                     bif x9.2.1 then (
                      .again 0 ([Lf.i IntKind.i64]) ((IntKind.wrap IntKind.i64 (x2.1 + 1), PUnit.unit)))
                     else (
                      .again 0 ([Lf.i IntKind.i64]) ((IntKind.wrap IntKind.i64 (x2.1 + 1), PUnit.unit))))))
                  else (
                   .call 10 ([AV.v (Value.pointer x0.1), AV.v (Value.int IntKind.i64 x3.2.1), AV.v (Value.slice x3.2.2.1.1 x3.2.2.1.2.1 x3.2.2.1.2.2), AV.v (Value.bool false)]) ([]) (Sh.one) ([Lf.i IntKind.i64]) ([]) (fun x8 =>
                    .call 16 ([AV.v (Value.pointer x0.1)]) ([]) (Sh.tup [(false, 1), (false, 1)]) ([Lf.i IntKind.i64, Lf.b]) ([]) (fun x9 =>
                     bif x9.2.1 then (
                      .again 0 ([Lf.i IntKind.i64]) ((IntKind.wrap IntKind.i64 (x2.1 + 1), PUnit.unit)))
                     else (
                      .again 0 ([Lf.i IntKind.i64]) ((IntKind.wrap IntKind.i64 (x2.1 + 1), PUnit.unit)))))))
                 else (
                  bif Int.tmod x3.1 3 == 1 then (
                   .call 11 ([AV.v (Value.pointer x0.1), AV.v (Value.int IntKind.i64 x3.2.1)]) ([]) (Sh.one) ([Lf.sl]) ([]) (fun x8 =>
                    .call 16 ([AV.v (Value.pointer x0.1)]) ([]) (Sh.tup [(false, 1), (false, 1)]) ([Lf.i IntKind.i64, Lf.b]) ([]) (fun x9 =>
                     bif x9.2.1 then (
                      .again 0 ([Lf.i IntKind.i64]) ((IntKind.wrap IntKind.i64 (x2.1 + 1), PUnit.unit)))
                     else (
                      .again 0 ([Lf.i IntKind.i64]) ((IntKind.wrap IntKind.i64 (x2.1 + 1), PUnit.unit))))))
                  else (
                   .call 17 ([AV.v (Value.pointer x0.1), AV.v (Value.int IntKind.i64 x3.2.1)]) ([]) (Sh.one) ([Lf.i IntKind.i64]) ([]) (fun x8 =>
                    .call 16 ([AV.v (Value.pointer x0.1)]) ([]) (Sh.tup [(false, 1), (false, 1)]) ([Lf.i IntKind.i64, Lf.b]) ([]) (fun x9 =>
                     bif x9.2.1 then (
                      .again 0 ([Lf.i IntKind.i64]) ((IntKind.wrap IntKind.i64 (x2.1 + 1), PUnit.unit)))
                     else (
                      .again 0 ([Lf.i IntKind.i64]) ((IntKind.wrap IntKind.i64 (x2.1 + 1), PUnit.unit)))))))))
                else (
                 .need (true) (
                 bif Int.tmod x3.1 3 == 0 then (
                  bif x3.2.2.2.1 then (
                   .call 10 ([AV.v (Value.pointer x0.1), AV.v (Value.int IntKind.i64 x3.2.1), AV.v (Value.slice x3.2.2.1.1 x3.2.2.1.2.1 x3.2.2.1.2.2), AV.v (Value.bool true)]) ([]) (Sh.one) ([Lf.i IntKind.i64]) ([]) (fun x8 =>
                    .call 16 ([AV.v (Value.pointer x0.1)]) ([]) (Sh.tup [(false, 1), (false, 1)]) ([Lf.i IntKind.i64, Lf.b]) ([]) (fun x9 =>
                     bif x9.2.1 then (
                      .again 0 ([Lf.i IntKind.i64]) ((IntKind.wrap IntKind.i64 (x2.1 + 1), PUnit.unit)))
                     else (
                      .again 0 ([Lf.i IntKind.i64]) ((IntKind.wrap IntKind.i64 (x2.1 + 1), PUnit.unit))))))
                  else (
                   .call 10 ([AV.v (Value.pointer x0.1), AV.v (Value.int IntKind.i64 x3.2.1), AV.v (Value.slice x3.2.2.1.1 x3.2.2.1.2.1 x3.2.2.1.2.2), AV.v (Value.bool false)]) ([]) (Sh.one) ([Lf.i IntKind.i64]) ([]) (fun x8 =>
                    .call 16 ([AV.v (Value.pointer x0.1)]) ([]) (Sh.tup [(false, 1), (false, 1)]) ([Lf.i IntKind.i64, Lf.b]) ([]) (fun x9 =>
                     bif x9.2.1 then (
                      .again 0 ([Lf.i IntKind.i64]) ((IntKind.wrap IntKind.i64 (x2.1 + 1), PUnit.unit)))
                     else (
                      .again 0 ([Lf.i IntKind.i64]) ((IntKind.wrap IntKind.i64 (x2.1 + 1), PUnit.unit)))))))
                 else (
                  bif Int.tmod x3.1 3 == 1 then (
                   .call 11 ([AV.v (Value.pointer x0.1), AV.v (Value.int IntKind.i64 x3.2.1)]) ([]) (Sh.one) ([Lf.sl]) ([]) (fun x8 =>
                    .call 16 ([AV.v (Value.pointer x0.1)]) ([]) (Sh.tup [(false, 1), (false, 1)]) ([Lf.i IntKind.i64, Lf.b]) ([]) (fun x9 =>
                     bif x9.2.1 then (
                      .again 0 ([Lf.i IntKind.i64]) ((IntKind.wrap IntKind.i64 (x2.1 + 1), PUnit.unit)))
                     else (
                      .again 0 ([Lf.i IntKind.i64]) ((IntKind.wrap IntKind.i64 (x2.1 + 1), PUnit.unit))))))
                  else (
                   .call 17 ([AV.v (Value.pointer x0.1), AV.v (Value.int IntKind.i64 x3.2.1)]) ([]) (Sh.one) ([Lf.i IntKind.i64]) ([]) (fun x8 =>
                    .call 16 ([AV.v (Value.pointer x0.1)]) ([]) (Sh.tup [(false, 1), (false, 1)]) ([Lf.i IntKind.i64, Lf.b]) ([]) (fun x9 =>
                     bif x9.2.1 then (
                      .again 0 ([Lf.i IntKind.i64]) ((IntKind.wrap IntKind.i64 (x2.1 + 1), PUnit.unit)))
                     else (
                      .again 0 ([Lf.i IntKind.i64]) ((IntKind.wrap IntKind.i64 (x2.1 + 1), PUnit.unit)))))))))))
              else (
               .call 16 ([AV.v (Value.pointer x0.1)]) ([]) (Sh.tup [(false, 1), (false, 1)]) ([Lf.i IntKind.i64, Lf.b]) ([]) (fun x7 =>
                bif x7.2.1 then (
                 .need (true) (
                 bif Int.tmod x3.1 3 == 0 then (
                  bif x3.2.2.2.1 then (
                   .call 10 ([AV.v (Value.pointer x0.1), AV.v (Value.int IntKind.i64 x3.2.1), AV.v (Value.slice x3.2.2.1.1 x3.2.2.1.2.1 x3.2.2.1.2.2), AV.v (Value.bool true)]) ([]) (Sh.one) ([Lf.i IntKind.i64]) ([]) (fun x8 =>
                    .call 16 ([AV.v (Value.pointer x0.1)]) ([]) (Sh.tup [(false, 1), (false, 1)]) ([Lf.i IntKind.i64, Lf.b]) ([]) (fun x9 =>
                     bif x9.2.1 then (
                      .again 0 ([Lf.i IntKind.i64]) ((IntKind.wrap IntKind.i64 (x2.1 + 1), PUnit.unit)))
                     else (
                      .again 0 ([Lf.i IntKind.i64]) ((IntKind.wrap IntKind.i64 (x2.1 + 1), PUnit.unit))))))
                  else (
                   .call 10 ([AV.v (Value.pointer x0.1), AV.v (Value.int IntKind.i64 x3.2.1), AV.v (Value.slice x3.2.2.1.1 x3.2.2.1.2.1 x3.2.2.1.2.2), AV.v (Value.bool false)]) ([]) (Sh.one) ([Lf.i IntKind.i64]) ([]) (fun x8 =>
                    .call 16 ([AV.v (Value.pointer x0.1)]) ([]) (Sh.tup [(false, 1), (false, 1)]) ([Lf.i IntKind.i64, Lf.b]) ([]) (fun x9 =>
                     bif x9.2.1 then (
                      .again 0 ([Lf.i IntKind.i64]) ((IntKind.wrap IntKind.i64 (x2.1 + 1), PUnit.unit)))
                     else (
                      .again 0 ([Lf.i IntKind.i64]) ((IntKind.wrap IntKind.i64 (x2.1 + 1), PUnit.unit)))))))
                 else (
                  bif Int.tmod x3.1 3 == 1 then (
                   .call 11 ([AV.v (Value.pointer x0.1), AV.v (Value.int IntKind.i64 x3.2.1)]) ([]) (Sh.one) ([Lf.sl]) ([]) (fun x8 =>
                    .call 16 ([AV.v (Value.pointer x0.1)]) ([]) (Sh.tup [(false, 1), (false, 1)]) ([Lf.i IntKind.i64, Lf.b]) ([]) (fun x9 =>
                     bif x9.2.1 then (
                      .again 0 ([Lf.i IntKind.i64]) ((IntKind.wrap IntKind.i64 (x2.1 + 1), PUnit.unit)))
                     else (
                      .again 0 ([Lf.i IntKind.i64]) ((IntKind.wrap IntKind.i64 (x2.1 + 1), PUnit.unit))))))
                  else (
                   .call 17 ([AV.v (Value.pointer x0.1), AV.v (Value.int IntKind.i64 x3.2.1)]) ([]) (Sh.one) ([Lf.i IntKind.i64]) ([]) (fun x8 =>
                    .call 16 ([AV.v (Value.pointer x0.1)]) ([]) (Sh.tup [(false, 1), (false, 1)]) ([Lf.i IntKind.i64, Lf.b]) ([]) (fun x9 =>
                     bif x9.2.1 then (
                      .again 0 ([Lf.i IntKind.i64]) ((IntKind.wrap IntKind.i64 (x2.1 + 1), PUnit.unit)))
                     else (
                      .again 0 ([Lf.i IntKind.i64]) ((IntKind.wrap IntKind.i64 (x2.1 + 1), PUnit.unit)))))))))
                else (
                 .need (true) (
                 bif Int.tmod x3.1 3 == 0 then (
                  bif x3.2.2.2.1 then (
                   .call 10 ([AV.v (Value.pointer x0.1), AV.v (Value.int IntKind.i64 x3.2.1), AV.v (Value.slice x3.2.2.1.1 x3.2.2.1.2.1 x3.2.2.1.2.2), AV.v (Value.bool true)]) ([]) (Sh.one) ([Lf.i IntKind.i64]) ([]) (fun x8 =>
                    .call 16 ([AV.v (Value.pointer x0.1)]) ([]) (Sh.tup [(false, 1), (false, 1)]) ([Lf.i IntKind.i64, Lf.b]) ([]) (fun x9 =>
                     bif x9.2.1 then (
                      .again 0 ([Lf.i IntKind.i64]) ((IntKind.wrap IntKind.i64 (x2.1 + 1), PUnit.unit)))
                     else (
                      .again 0 ([Lf.i IntKind.i64]) ((IntKind.wrap IntKind.i64 (x2.1 + 1), PUnit.unit))))))
                  else (
                   .call 10 ([AV.v (Value.pointer x0.1), AV.v (Value.int IntKind.i64 x3.2.1), AV.v (Value.slice x3.2.2.1.1 x3.2.2.1.2.1 x3.2.2.1.2.2), AV.v (Value.bool false)]) ([]) (Sh.one) ([Lf.i IntKind.i64]) ([]) (fun x8 =>
                    .call 16 ([AV.v (Value.pointer x0.1)]) ([]) (Sh.tup [(false, 1), (false, 1)]) ([Lf.i IntKind.i64, Lf.b]) ([]) (fun x9 =>
                     bif x9.2.1 then (
                      .again 0 ([Lf.i IntKind.i64]) ((IntKind.wrap IntKind.i64 (x2.1 + 1), PUnit.unit)))
                     else (
                      .again 0 ([Lf.i IntKind.i64]) ((IntKind.wrap IntKind.i64 (x2.1 + 1), PUnit.unit)))))))
                 else (
                  bif Int.tmod x3.1 3 == 1 then (
                   .call 11 ([AV.v (Value.pointer x0.1), AV.v (Value.int IntKind.i64 x3.2.1)]) ([]) (Sh.one) ([Lf.sl]) ([]) (fun x8 =>
                    .call 16 ([AV.v (Value.pointer x0.1)]) ([]) (Sh.tup [(false, 1), (false, 1)]) ([Lf.i IntKind.i64, Lf.b]) ([]) (fun x9 =>
                     bif x9.2.1 then (
                      .again 0 ([Lf.i IntKind.i64]) ((IntKind.wrap IntKind.i64 (x2.1 + 1), PUnit.unit)))
                     else (
                      .again 0 ([Lf.i IntKind.i64]) ((IntKind.wrap IntKind.i64 (x2.1 + 1), PUnit.unit))))))
                  else (
                   .call 17 ([AV.v (Value.pointer x0.1), AV.v (Value.int IntKind.i64 x3.2.1)]) ([]) (Sh.one) ([Lf.i IntKind.i64]) ([]) (fun x8 =>
                    .call 16 ([AV.v (Value.pointer x0.1)]) ([]) (Sh.tup [(false, 1), (false, 1)]) ([Lf.i IntKind.i64, Lf.b]) ([]) (fun x9 =>
                     bif x9.2.1 then (
                      .again 0 ([Lf.i IntKind.i64]) ((IntKind.wrap IntKind.i64 (x2.1 + 1), PUnit.unit)))
                     else (
                      .again 0 ([Lf.i IntKind.i64]) ((IntKind.wrap IntKind.i64 (x2.1 + 1), PUnit.unit))))))))))))))))))
        else (
         .done (AV.v (Value.bool true)) ([]))))
      else (
       .call 9 ([]) ([]) (Sh.one) ([Lf.b]) ([]) (fun x2 =>
        bif x2.1 then (
         .done (AV.v (Value.bool true)) ([]))
        else (
         .done (AV.v (Value.bool false)) ([])))))))) := by kernel_rfl
end Go.Proofs.Ytdjeadgebcndeaa.X

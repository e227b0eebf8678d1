/-
  What the functions on rules and words compute.
-/
import Derived.Test.YteaglcbnkephgaaFrame
set_option linter.unusedSimpArgs false
set_option linter.unusedVariables false
namespace Go.Proofs.Yteaglcbnkephgaa
open Go Go.RowKit

/-- How many kids a rule has. -/
def dkids (r : Int) : Int :=
  if r = 1 ∨ r = 2 then 0
  else if r = 8 ∨ r = 9 ∨ r = 11 ∨ r = 13 ∨ r = 14 ∨ r = 17 ∨ r = 21 ∨ r = 22 then 1
  else if r = 3 ∨ r = 4 ∨ r = 5 ∨ r = 6 ∨ r = 10 ∨ r = 12 ∨ r = 15 ∨ r = 16 ∨ r = 18 ∨ r = 23 ∨ r = 24 ∨ r = 25 ∨ r = 26 then 2
  else if r = 7 ∨ r = 19 ∨ r = 20 ∨ r = 27 then 3
  else if r = 28 then 4
  else -1
def dinner (r k : Int) : Bool :=
  if r = 3 ∨ r = 6 ∨ r = 4 ∨ r = 7 ∨ r = 19 ∨ r = 20 ∨ r = 18 ∨ r = 23 ∨ r = 25 ∨ r = 26 ∨ r = 28 then decide (k = 1)
  else if r = 27 then decide (k = 1) || decide (k = 2)
  else false
def dequal (r : Int) : Bool := decide (13 ≤ r) && decide (r ≤ 28)
theorem call46 : Callable Try.prog 46 := callable_of Try.func46 (by kernel_rfl) (by kernel_rfl)
theorem res46 : Try.f46.results.toList = [.tmp 2] := rfl
set_option maxHeartbeats 4000000 in
set_option maxRecDepth 100000 in
theorem dkids_c (r : Int) : ACalls Try.prog 46 [.one (.int r)] (.v (.one (.int (dkids r)))) true := by
  refine acalls_of_awp Try.func46 rfl call46 false (by rw [Try.ntmps46]; simp) fun w0 S => ?_
  rw [Try.ntmps46]
  generalize hQ : Done Try.prog false Try.f46.results.toList (.v (.one (.int (dkids r)))) true = Q
  simp only [start, startEnv, argAV, Nat.zero_add, Nat.reduceAdd]
  refine awp_seq_k fun K0 hK0 => ?_
  refine awp_region' ([]) ?_
  simp [fxs, fxOf, dstOK, guardA, runOp, calleeOf, effOp, effBin, AS.ev, AS.get, AS.obj, AS.app, AS.ups, AS.put, AS.behind, AS.rowsOf, AS.resC, AS.resCs, resCs_map, AS.resIV, AS.resArgs, AS.evParts, fillA, AS.fillRows, effCall, ivAV, ivAVs, avOf, acOf, A1.cells, C.flat, List.lookup, Fx.Holds, AS.behindRegion, AS.apps, thenA, inBlockA, InI64, splice, tab3, tab4, tab9, tab22, tab24, tab25, tab69]
  repeat (refine ⟨by first | assumption | omega, ?_⟩)
  apply hK0
  try clear hK0 K0
  refine awp_seq_k fun K1 hK1 => ?_
  refine awp_seq_k fun K2 hK2 => ?_
  refine awp_region' ([]) ?_
  simp [fxs, fxOf, dstOK, guardA, runOp, calleeOf, effOp, effBin, AS.ev, AS.get, AS.obj, AS.app, AS.ups, AS.put, AS.behind, AS.rowsOf, AS.resC, AS.resCs, resCs_map, AS.resIV, AS.resArgs, AS.evParts, fillA, AS.fillRows, effCall, ivAV, ivAVs, avOf, acOf, A1.cells, C.flat, List.lookup, Fx.Holds, AS.behindRegion, AS.apps, thenA, inBlockA, InI64, splice, tab3, tab4, tab9, tab22, tab24, tab25, tab69]
  repeat (refine ⟨by first | assumption | omega, ?_⟩)
  apply hK2
  try clear hK2 K2
  refine awp_block ?_
  refine awp_seq_k fun K3 hK3 => ?_
  refine awp_seq_k fun K4 hK4 => ?_
  refine awp_region' ([]) ?_
  simp [fxs, fxOf, dstOK, guardA, runOp, calleeOf, effOp, effBin, AS.ev, AS.get, AS.obj, AS.app, AS.ups, AS.put, AS.behind, AS.rowsOf, AS.resC, AS.resCs, resCs_map, AS.resIV, AS.resArgs, AS.evParts, fillA, AS.fillRows, effCall, ivAV, ivAVs, avOf, acOf, A1.cells, C.flat, List.lookup, Fx.Holds, AS.behindRegion, AS.apps, thenA, inBlockA, InI64, splice, tab3, tab4, tab9, tab22, tab24, tab25, tab69]
  repeat (refine ⟨by first | assumption | omega, ?_⟩)
  apply hK4
  try clear hK4 K4
  refine awp_cond rfl (fun hb1 => ?_) (fun hb1 => ?_)
  · try simp at hb1
    refine awp_skip ?_
    try simp only [thenA, inBlockA]
    apply hK3
    try clear hK3 K3
    refine awp_cond rfl (fun hb2 => ?_) (fun hb2 => ?_)
    · try simp at hb2
      refine awp_seq_k fun K5 hK5 => ?_
      refine awp_region' ([]) ?_
      simp [fxs, fxOf, dstOK, guardA, runOp, calleeOf, effOp, effBin, AS.ev, AS.get, AS.obj, AS.app, AS.ups, AS.put, AS.behind, AS.rowsOf, AS.resC, AS.resCs, resCs_map, AS.resIV, AS.resArgs, AS.evParts, fillA, AS.fillRows, effCall, ivAV, ivAVs, avOf, acOf, A1.cells, C.flat, List.lookup, Fx.Holds, AS.behindRegion, AS.apps, thenA, inBlockA, InI64, splice, tab3, tab4, tab9, tab22, tab24, tab25, tab69]
      repeat (refine ⟨by first | assumption | omega, ?_⟩)
      apply hK5
      try clear hK5 K5
      refine awp_ret ?_
      try simp only [thenA, inBlockA]
      rw [← hQ]
      refine ⟨by first | exact .inl rfl | exact .inr rfl, ?_⟩
      simp [AS.result, AS.resVars, AS.resVar, AS.ivOf, AS.ivsOf, AS.resC, AS.resCs, resCs_map, C.flat, AS.get, AS.obj, AS.ups, AS.put, List.lookup, res46, tab3, tab4, tab9, tab22, tab24, tab25, tab69, dkids, *]
    · exfalso; simp_all
  · try simp at hb1
    refine awp_region' ([]) ?_
    simp [fxs, fxOf, dstOK, guardA, runOp, calleeOf, effOp, effBin, AS.ev, AS.get, AS.obj, AS.app, AS.ups, AS.put, AS.behind, AS.rowsOf, AS.resC, AS.resCs, resCs_map, AS.resIV, AS.resArgs, AS.evParts, fillA, AS.fillRows, effCall, ivAV, ivAVs, avOf, acOf, A1.cells, C.flat, List.lookup, Fx.Holds, AS.behindRegion, AS.apps, thenA, inBlockA, InI64, splice, tab3, tab4, tab9, tab22, tab24, tab25, tab69]
    repeat (refine ⟨by first | assumption | omega, ?_⟩)
    apply hK3
    try clear hK3 K3
    refine awp_cond rfl (fun hb3 => ?_) (fun hb3 => ?_)
    · try simp at hb3
      refine awp_seq_k fun K6 hK6 => ?_
      refine awp_region' ([]) ?_
      simp [fxs, fxOf, dstOK, guardA, runOp, calleeOf, effOp, effBin, AS.ev, AS.get, AS.obj, AS.app, AS.ups, AS.put, AS.behind, AS.rowsOf, AS.resC, AS.resCs, resCs_map, AS.resIV, AS.resArgs, AS.evParts, fillA, AS.fillRows, effCall, ivAV, ivAVs, avOf, acOf, A1.cells, C.flat, List.lookup, Fx.Holds, AS.behindRegion, AS.apps, thenA, inBlockA, InI64, splice, tab3, tab4, tab9, tab22, tab24, tab25, tab69]
      repeat (refine ⟨by first | assumption | omega, ?_⟩)
      apply hK6
      try clear hK6 K6
      refine awp_ret ?_
      try simp only [thenA, inBlockA]
      rw [← hQ]
      refine ⟨by first | exact .inl rfl | exact .inr rfl, ?_⟩
      simp [AS.result, AS.resVars, AS.resVar, AS.ivOf, AS.ivsOf, AS.resC, AS.resCs, resCs_map, C.flat, AS.get, AS.obj, AS.ups, AS.put, List.lookup, res46, tab3, tab4, tab9, tab22, tab24, tab25, tab69, dkids, *]
    · try simp at hb3
      refine awp_seq_k fun K7 hK7 => ?_
      refine awp_seq_k fun K8 hK8 => ?_
      refine awp_region' ([]) ?_
      simp [fxs, fxOf, dstOK, guardA, runOp, calleeOf, effOp, effBin, AS.ev, AS.get, AS.obj, AS.app, AS.ups, AS.put, AS.behind, AS.rowsOf, AS.resC, AS.resCs, resCs_map, AS.resIV, AS.resArgs, AS.evParts, fillA, AS.fillRows, effCall, ivAV, ivAVs, avOf, acOf, A1.cells, C.flat, List.lookup, Fx.Holds, AS.behindRegion, AS.apps, thenA, inBlockA, InI64, splice, tab3, tab4, tab9, tab22, tab24, tab25, tab69]
      repeat (refine ⟨by first | assumption | omega, ?_⟩)
      apply hK8
      try clear hK8 K8
      refine awp_cond rfl (fun hb4 => ?_) (fun hb4 => ?_)
      · try simp at hb4
        refine awp_skip ?_
        try simp only [thenA, inBlockA]
        apply hK7
        try clear hK7 K7
        refine awp_cond rfl (fun hb5 => ?_) (fun hb5 => ?_)
        · try simp at hb5
          refine awp_seq_k fun K9 hK9 => ?_
          refine awp_region' ([]) ?_
          simp [fxs, fxOf, dstOK, guardA, runOp, calleeOf, effOp, effBin, AS.ev, AS.get, AS.obj, AS.app, AS.ups, AS.put, AS.behind, AS.rowsOf, AS.resC, AS.resCs, resCs_map, AS.resIV, AS.resArgs, AS.evParts, fillA, AS.fillRows, effCall, ivAV, ivAVs, avOf, acOf, A1.cells, C.flat, List.lookup, Fx.Holds, AS.behindRegion, AS.apps, thenA, inBlockA, InI64, splice, tab3, tab4, tab9, tab22, tab24, tab25, tab69]
          repeat (refine ⟨by first | assumption | omega, ?_⟩)
          apply hK9
          try clear hK9 K9
          refine awp_ret ?_
          try simp only [thenA, inBlockA]
          rw [← hQ]
          refine ⟨by first | exact .inl rfl | exact .inr rfl, ?_⟩
          simp [AS.result, AS.resVars, AS.resVar, AS.ivOf, AS.ivsOf, AS.resC, AS.resCs, resCs_map, C.flat, AS.get, AS.obj, AS.ups, AS.put, List.lookup, res46, tab3, tab4, tab9, tab22, tab24, tab25, tab69, dkids, *]
        · exfalso; simp_all
      · try simp at hb4
        refine awp_seq_k fun K10 hK10 => ?_
        refine awp_region' ([]) ?_
        simp [fxs, fxOf, dstOK, guardA, runOp, calleeOf, effOp, effBin, AS.ev, AS.get, AS.obj, AS.app, AS.ups, AS.put, AS.behind, AS.rowsOf, AS.resC, AS.resCs, resCs_map, AS.resIV, AS.resArgs, AS.evParts, fillA, AS.fillRows, effCall, ivAV, ivAVs, avOf, acOf, A1.cells, C.flat, List.lookup, Fx.Holds, AS.behindRegion, AS.apps, thenA, inBlockA, InI64, splice, tab3, tab4, tab9, tab22, tab24, tab25, tab69]
        repeat (refine ⟨by first | assumption | omega, ?_⟩)
        apply hK10
        try clear hK10 K10
        refine awp_cond rfl (fun hb6 => ?_) (fun hb6 => ?_)
        · try simp at hb6
          refine awp_skip ?_
          try simp only [thenA, inBlockA]
          apply hK7
          try clear hK7 K7
          refine awp_cond rfl (fun hb7 => ?_) (fun hb7 => ?_)
          · try simp at hb7
            refine awp_seq_k fun K11 hK11 => ?_
            refine awp_region' ([]) ?_
            simp [fxs, fxOf, dstOK, guardA, runOp, calleeOf, effOp, effBin, AS.ev, AS.get, AS.obj, AS.app, AS.ups, AS.put, AS.behind, AS.rowsOf, AS.resC, AS.resCs, resCs_map, AS.resIV, AS.resArgs, AS.evParts, fillA, AS.fillRows, effCall, ivAV, ivAVs, avOf, acOf, A1.cells, C.flat, List.lookup, Fx.Holds, AS.behindRegion, AS.apps, thenA, inBlockA, InI64, splice, tab3, tab4, tab9, tab22, tab24, tab25, tab69]
            repeat (refine ⟨by first | assumption | omega, ?_⟩)
            apply hK11
            try clear hK11 K11
            refine awp_ret ?_
            try simp only [thenA, inBlockA]
            rw [← hQ]
            refine ⟨by first | exact .inl rfl | exact .inr rfl, ?_⟩
            simp [AS.result, AS.resVars, AS.resVar, AS.ivOf, AS.ivsOf, AS.resC, AS.resCs, resCs_map, C.flat, AS.get, AS.obj, AS.ups, AS.put, List.lookup, res46, tab3, tab4, tab9, tab22, tab24, tab25, tab69, dkids, *]
          · exfalso; simp_all
        · try simp at hb6
          refine awp_seq_k fun K12 hK12 => ?_
          refine awp_region' ([]) ?_
          simp [fxs, fxOf, dstOK, guardA, runOp, calleeOf, effOp, effBin, AS.ev, AS.get, AS.obj, AS.app, AS.ups, AS.put, AS.behind, AS.rowsOf, AS.resC, AS.resCs, resCs_map, AS.resIV, AS.resArgs, AS.evParts, fillA, AS.fillRows, effCall, ivAV, ivAVs, avOf, acOf, A1.cells, C.flat, List.lookup, Fx.Holds, AS.behindRegion, AS.apps, thenA, inBlockA, InI64, splice, tab3, tab4, tab9, tab22, tab24, tab25, tab69]
          repeat (refine ⟨by first | assumption | omega, ?_⟩)
          apply hK12
          try clear hK12 K12
          refine awp_cond rfl (fun hb8 => ?_) (fun hb8 => ?_)
          · try simp at hb8
            refine awp_skip ?_
            try simp only [thenA, inBlockA]
            apply hK7
            try clear hK7 K7
            refine awp_cond rfl (fun hb9 => ?_) (fun hb9 => ?_)
            · try simp at hb9
              refine awp_seq_k fun K13 hK13 => ?_
              refine awp_region' ([]) ?_
              simp [fxs, fxOf, dstOK, guardA, runOp, calleeOf, effOp, effBin, AS.ev, AS.get, AS.obj, AS.app, AS.ups, AS.put, AS.behind, AS.rowsOf, AS.resC, AS.resCs, resCs_map, AS.resIV, AS.resArgs, AS.evParts, fillA, AS.fillRows, effCall, ivAV, ivAVs, avOf, acOf, A1.cells, C.flat, List.lookup, Fx.Holds, AS.behindRegion, AS.apps, thenA, inBlockA, InI64, splice, tab3, tab4, tab9, tab22, tab24, tab25, tab69]
              repeat (refine ⟨by first | assumption | omega, ?_⟩)
              apply hK13
              try clear hK13 K13
              refine awp_ret ?_
              try simp only [thenA, inBlockA]
              rw [← hQ]
              refine ⟨by first | exact .inl rfl | exact .inr rfl, ?_⟩
              simp [AS.result, AS.resVars, AS.resVar, AS.ivOf, AS.ivsOf, AS.resC, AS.resCs, resCs_map, C.flat, AS.get, AS.obj, AS.ups, AS.put, List.lookup, res46, tab3, tab4, tab9, tab22, tab24, tab25, tab69, dkids, *]
            · exfalso; simp_all
          · try simp at hb8
            refine awp_seq_k fun K14 hK14 => ?_
            refine awp_region' ([]) ?_
            simp [fxs, fxOf, dstOK, guardA, runOp, calleeOf, effOp, effBin, AS.ev, AS.get, AS.obj, AS.app, AS.ups, AS.put, AS.behind, AS.rowsOf, AS.resC, AS.resCs, resCs_map, AS.resIV, AS.resArgs, AS.evParts, fillA, AS.fillRows, effCall, ivAV, ivAVs, avOf, acOf, A1.cells, C.flat, List.lookup, Fx.Holds, AS.behindRegion, AS.apps, thenA, inBlockA, InI64, splice, tab3, tab4, tab9, tab22, tab24, tab25, tab69]
            repeat (refine ⟨by first | assumption | omega, ?_⟩)
            apply hK14
            try clear hK14 K14
            refine awp_cond rfl (fun hb10 => ?_) (fun hb10 => ?_)
            · try simp at hb10
              refine awp_skip ?_
              try simp only [thenA, inBlockA]
              apply hK7
              try clear hK7 K7
              refine awp_cond rfl (fun hb11 => ?_) (fun hb11 => ?_)
              · try simp at hb11
                refine awp_seq_k fun K15 hK15 => ?_
                refine awp_region' ([]) ?_
                simp [fxs, fxOf, dstOK, guardA, runOp, calleeOf, effOp, effBin, AS.ev, AS.get, AS.obj, AS.app, AS.ups, AS.put, AS.behind, AS.rowsOf, AS.resC, AS.resCs, resCs_map, AS.resIV, AS.resArgs, AS.evParts, fillA, AS.fillRows, effCall, ivAV, ivAVs, avOf, acOf, A1.cells, C.flat, List.lookup, Fx.Holds, AS.behindRegion, AS.apps, thenA, inBlockA, InI64, splice, tab3, tab4, tab9, tab22, tab24, tab25, tab69]
                repeat (refine ⟨by first | assumption | omega, ?_⟩)
                apply hK15
                try clear hK15 K15
                refine awp_ret ?_
                try simp only [thenA, inBlockA]
                rw [← hQ]
                refine ⟨by first | exact .inl rfl | exact .inr rfl, ?_⟩
                simp [AS.result, AS.resVars, AS.resVar, AS.ivOf, AS.ivsOf, AS.resC, AS.resCs, resCs_map, C.flat, AS.get, AS.obj, AS.ups, AS.put, List.lookup, res46, tab3, tab4, tab9, tab22, tab24, tab25, tab69, dkids, *]
              · exfalso; simp_all
            · try simp at hb10
              refine awp_seq_k fun K16 hK16 => ?_
              refine awp_region' ([]) ?_
              simp [fxs, fxOf, dstOK, guardA, runOp, calleeOf, effOp, effBin, AS.ev, AS.get, AS.obj, AS.app, AS.ups, AS.put, AS.behind, AS.rowsOf, AS.resC, AS.resCs, resCs_map, AS.resIV, AS.resArgs, AS.evParts, fillA, AS.fillRows, effCall, ivAV, ivAVs, avOf, acOf, A1.cells, C.flat, List.lookup, Fx.Holds, AS.behindRegion, AS.apps, thenA, inBlockA, InI64, splice, tab3, tab4, tab9, tab22, tab24, tab25, tab69]
              repeat (refine ⟨by first | assumption | omega, ?_⟩)
              apply hK16
              try clear hK16 K16
              refine awp_cond rfl (fun hb12 => ?_) (fun hb12 => ?_)
              · try simp at hb12
                refine awp_skip ?_
                try simp only [thenA, inBlockA]
                apply hK7
                try clear hK7 K7
                refine awp_cond rfl (fun hb13 => ?_) (fun hb13 => ?_)
                · try simp at hb13
                  refine awp_seq_k fun K17 hK17 => ?_
                  refine awp_region' ([]) ?_
                  simp [fxs, fxOf, dstOK, guardA, runOp, calleeOf, effOp, effBin, AS.ev, AS.get, AS.obj, AS.app, AS.ups, AS.put, AS.behind, AS.rowsOf, AS.resC, AS.resCs, resCs_map, AS.resIV, AS.resArgs, AS.evParts, fillA, AS.fillRows, effCall, ivAV, ivAVs, avOf, acOf, A1.cells, C.flat, List.lookup, Fx.Holds, AS.behindRegion, AS.apps, thenA, inBlockA, InI64, splice, tab3, tab4, tab9, tab22, tab24, tab25, tab69]
                  repeat (refine ⟨by first | assumption | omega, ?_⟩)
                  apply hK17
                  try clear hK17 K17
                  refine awp_ret ?_
                  try simp only [thenA, inBlockA]
                  rw [← hQ]
                  refine ⟨by first | exact .inl rfl | exact .inr rfl, ?_⟩
                  simp [AS.result, AS.resVars, AS.resVar, AS.ivOf, AS.ivsOf, AS.resC, AS.resCs, resCs_map, C.flat, AS.get, AS.obj, AS.ups, AS.put, List.lookup, res46, tab3, tab4, tab9, tab22, tab24, tab25, tab69, dkids, *]
                · exfalso; simp_all
              · try simp at hb12
                refine awp_seq_k fun K18 hK18 => ?_
                refine awp_region' ([]) ?_
                simp [fxs, fxOf, dstOK, guardA, runOp, calleeOf, effOp, effBin, AS.ev, AS.get, AS.obj, AS.app, AS.ups, AS.put, AS.behind, AS.rowsOf, AS.resC, AS.resCs, resCs_map, AS.resIV, AS.resArgs, AS.evParts, fillA, AS.fillRows, effCall, ivAV, ivAVs, avOf, acOf, A1.cells, C.flat, List.lookup, Fx.Holds, AS.behindRegion, AS.apps, thenA, inBlockA, InI64, splice, tab3, tab4, tab9, tab22, tab24, tab25, tab69]
                repeat (refine ⟨by first | assumption | omega, ?_⟩)
                apply hK18
                try clear hK18 K18
                refine awp_cond rfl (fun hb14 => ?_) (fun hb14 => ?_)
                · try simp at hb14
                  refine awp_skip ?_
                  try simp only [thenA, inBlockA]
                  apply hK7
                  try clear hK7 K7
                  refine awp_cond rfl (fun hb15 => ?_) (fun hb15 => ?_)
                  · try simp at hb15
                    refine awp_seq_k fun K19 hK19 => ?_
                    refine awp_region' ([]) ?_
                    simp [fxs, fxOf, dstOK, guardA, runOp, calleeOf, effOp, effBin, AS.ev, AS.get, AS.obj, AS.app, AS.ups, AS.put, AS.behind, AS.rowsOf, AS.resC, AS.resCs, resCs_map, AS.resIV, AS.resArgs, AS.evParts, fillA, AS.fillRows, effCall, ivAV, ivAVs, avOf, acOf, A1.cells, C.flat, List.lookup, Fx.Holds, AS.behindRegion, AS.apps, thenA, inBlockA, InI64, splice, tab3, tab4, tab9, tab22, tab24, tab25, tab69]
                    repeat (refine ⟨by first | assumption | omega, ?_⟩)
                    apply hK19
                    try clear hK19 K19
                    refine awp_ret ?_
                    try simp only [thenA, inBlockA]
                    rw [← hQ]
                    refine ⟨by first | exact .inl rfl | exact .inr rfl, ?_⟩
                    simp [AS.result, AS.resVars, AS.resVar, AS.ivOf, AS.ivsOf, AS.resC, AS.resCs, resCs_map, C.flat, AS.get, AS.obj, AS.ups, AS.put, List.lookup, res46, tab3, tab4, tab9, tab22, tab24, tab25, tab69, dkids, *]
                  · exfalso; simp_all
                · try simp at hb14
                  refine awp_seq_k fun K20 hK20 => ?_
                  refine awp_region' ([]) ?_
                  simp [fxs, fxOf, dstOK, guardA, runOp, calleeOf, effOp, effBin, AS.ev, AS.get, AS.obj, AS.app, AS.ups, AS.put, AS.behind, AS.rowsOf, AS.resC, AS.resCs, resCs_map, AS.resIV, AS.resArgs, AS.evParts, fillA, AS.fillRows, effCall, ivAV, ivAVs, avOf, acOf, A1.cells, C.flat, List.lookup, Fx.Holds, AS.behindRegion, AS.apps, thenA, inBlockA, InI64, splice, tab3, tab4, tab9, tab22, tab24, tab25, tab69]
                  repeat (refine ⟨by first | assumption | omega, ?_⟩)
                  apply hK20
                  try clear hK20 K20
                  refine awp_cond rfl (fun hb16 => ?_) (fun hb16 => ?_)
                  · try simp at hb16
                    refine awp_skip ?_
                    try simp only [thenA, inBlockA]
                    apply hK7
                    try clear hK7 K7
                    refine awp_cond rfl (fun hb17 => ?_) (fun hb17 => ?_)
                    · try simp at hb17
                      refine awp_seq_k fun K21 hK21 => ?_
                      refine awp_region' ([]) ?_
                      simp [fxs, fxOf, dstOK, guardA, runOp, calleeOf, effOp, effBin, AS.ev, AS.get, AS.obj, AS.app, AS.ups, AS.put, AS.behind, AS.rowsOf, AS.resC, AS.resCs, resCs_map, AS.resIV, AS.resArgs, AS.evParts, fillA, AS.fillRows, effCall, ivAV, ivAVs, avOf, acOf, A1.cells, C.flat, List.lookup, Fx.Holds, AS.behindRegion, AS.apps, thenA, inBlockA, InI64, splice, tab3, tab4, tab9, tab22, tab24, tab25, tab69]
                      repeat (refine ⟨by first | assumption | omega, ?_⟩)
                      apply hK21
                      try clear hK21 K21
                      refine awp_ret ?_
                      try simp only [thenA, inBlockA]
                      rw [← hQ]
                      refine ⟨by first | exact .inl rfl | exact .inr rfl, ?_⟩
                      simp [AS.result, AS.resVars, AS.resVar, AS.ivOf, AS.ivsOf, AS.resC, AS.resCs, resCs_map, C.flat, AS.get, AS.obj, AS.ups, AS.put, List.lookup, res46, tab3, tab4, tab9, tab22, tab24, tab25, tab69, dkids, *]
                    · exfalso; simp_all
                  · try simp at hb16
                    refine awp_region' ([]) ?_
                    simp [fxs, fxOf, dstOK, guardA, runOp, calleeOf, effOp, effBin, AS.ev, AS.get, AS.obj, AS.app, AS.ups, AS.put, AS.behind, AS.rowsOf, AS.resC, AS.resCs, resCs_map, AS.resIV, AS.resArgs, AS.evParts, fillA, AS.fillRows, effCall, ivAV, ivAVs, avOf, acOf, A1.cells, C.flat, List.lookup, Fx.Holds, AS.behindRegion, AS.apps, thenA, inBlockA, InI64, splice, tab3, tab4, tab9, tab22, tab24, tab25, tab69]
                    repeat (refine ⟨by first | assumption | omega, ?_⟩)
                    apply hK7
                    try clear hK7 K7
                    refine awp_cond rfl (fun hb18 => ?_) (fun hb18 => ?_)
                    · try simp at hb18
                      refine awp_seq_k fun K22 hK22 => ?_
                      refine awp_region' ([]) ?_
                      simp [fxs, fxOf, dstOK, guardA, runOp, calleeOf, effOp, effBin, AS.ev, AS.get, AS.obj, AS.app, AS.ups, AS.put, AS.behind, AS.rowsOf, AS.resC, AS.resCs, resCs_map, AS.resIV, AS.resArgs, AS.evParts, fillA, AS.fillRows, effCall, ivAV, ivAVs, avOf, acOf, A1.cells, C.flat, List.lookup, Fx.Holds, AS.behindRegion, AS.apps, thenA, inBlockA, InI64, splice, tab3, tab4, tab9, tab22, tab24, tab25, tab69]
                      repeat (refine ⟨by first | assumption | omega, ?_⟩)
                      apply hK22
                      try clear hK22 K22
                      refine awp_ret ?_
                      try simp only [thenA, inBlockA]
                      rw [← hQ]
                      refine ⟨by first | exact .inl rfl | exact .inr rfl, ?_⟩
                      simp [AS.result, AS.resVars, AS.resVar, AS.ivOf, AS.ivsOf, AS.resC, AS.resCs, resCs_map, C.flat, AS.get, AS.obj, AS.ups, AS.put, List.lookup, res46, tab3, tab4, tab9, tab22, tab24, tab25, tab69, dkids, *]
                    · try simp at hb18
                      refine awp_seq_k fun K23 hK23 => ?_
                      refine awp_seq_k fun K24 hK24 => ?_
                      refine awp_region' ([]) ?_
                      simp [fxs, fxOf, dstOK, guardA, runOp, calleeOf, effOp, effBin, AS.ev, AS.get, AS.obj, AS.app, AS.ups, AS.put, AS.behind, AS.rowsOf, AS.resC, AS.resCs, resCs_map, AS.resIV, AS.resArgs, AS.evParts, fillA, AS.fillRows, effCall, ivAV, ivAVs, avOf, acOf, A1.cells, C.flat, List.lookup, Fx.Holds, AS.behindRegion, AS.apps, thenA, inBlockA, InI64, splice, tab3, tab4, tab9, tab22, tab24, tab25, tab69]
                      repeat (refine ⟨by first | assumption | omega, ?_⟩)
                      apply hK24
                      try clear hK24 K24
                      refine awp_cond rfl (fun hb19 => ?_) (fun hb19 => ?_)
                      · try simp at hb19
                        refine awp_skip ?_
                        try simp only [thenA, inBlockA]
                        apply hK23
                        try clear hK23 K23
                        refine awp_cond rfl (fun hb20 => ?_) (fun hb20 => ?_)
                        · try simp at hb20
                          refine awp_seq_k fun K25 hK25 => ?_
                          refine awp_region' ([]) ?_
                          simp [fxs, fxOf, dstOK, guardA, runOp, calleeOf, effOp, effBin, AS.ev, AS.get, AS.obj, AS.app, AS.ups, AS.put, AS.behind, AS.rowsOf, AS.resC, AS.resCs, resCs_map, AS.resIV, AS.resArgs, AS.evParts, fillA, AS.fillRows, effCall, ivAV, ivAVs, avOf, acOf, A1.cells, C.flat, List.lookup, Fx.Holds, AS.behindRegion, AS.apps, thenA, inBlockA, InI64, splice, tab3, tab4, tab9, tab22, tab24, tab25, tab69]
                          repeat (refine ⟨by first | assumption | omega, ?_⟩)
                          apply hK25
                          try clear hK25 K25
                          refine awp_ret ?_
                          try simp only [thenA, inBlockA]
                          rw [← hQ]
                          refine ⟨by first | exact .inl rfl | exact .inr rfl, ?_⟩
                          simp [AS.result, AS.resVars, AS.resVar, AS.ivOf, AS.ivsOf, AS.resC, AS.resCs, resCs_map, C.flat, AS.get, AS.obj, AS.ups, AS.put, List.lookup, res46, tab3, tab4, tab9, tab22, tab24, tab25, tab69, dkids, *]
                        · exfalso; simp_all
                      · try simp at hb19
                        refine awp_seq_k fun K26 hK26 => ?_
                        refine awp_region' ([]) ?_
                        simp [fxs, fxOf, dstOK, guardA, runOp, calleeOf, effOp, effBin, AS.ev, AS.get, AS.obj, AS.app, AS.ups, AS.put, AS.behind, AS.rowsOf, AS.resC, AS.resCs, resCs_map, AS.resIV, AS.resArgs, AS.evParts, fillA, AS.fillRows, effCall, ivAV, ivAVs, avOf, acOf, A1.cells, C.flat, List.lookup, Fx.Holds, AS.behindRegion, AS.apps, thenA, inBlockA, InI64, splice, tab3, tab4, tab9, tab22, tab24, tab25, tab69]
                        repeat (refine ⟨by first | assumption | omega, ?_⟩)
                        apply hK26
                        try clear hK26 K26
                        refine awp_cond rfl (fun hb21 => ?_) (fun hb21 => ?_)
                        · try simp at hb21
                          refine awp_skip ?_
                          try simp only [thenA, inBlockA]
                          apply hK23
                          try clear hK23 K23
                          refine awp_cond rfl (fun hb22 => ?_) (fun hb22 => ?_)
                          · try simp at hb22
                            refine awp_seq_k fun K27 hK27 => ?_
                            refine awp_region' ([]) ?_
                            simp [fxs, fxOf, dstOK, guardA, runOp, calleeOf, effOp, effBin, AS.ev, AS.get, AS.obj, AS.app, AS.ups, AS.put, AS.behind, AS.rowsOf, AS.resC, AS.resCs, resCs_map, AS.resIV, AS.resArgs, AS.evParts, fillA, AS.fillRows, effCall, ivAV, ivAVs, avOf, acOf, A1.cells, C.flat, List.lookup, Fx.Holds, AS.behindRegion, AS.apps, thenA, inBlockA, InI64, splice, tab3, tab4, tab9, tab22, tab24, tab25, tab69]
                            repeat (refine ⟨by first | assumption | omega, ?_⟩)
                            apply hK27
                            try clear hK27 K27
                            refine awp_ret ?_
                            try simp only [thenA, inBlockA]
                            rw [← hQ]
                            refine ⟨by first | exact .inl rfl | exact .inr rfl, ?_⟩
                            simp [AS.result, AS.resVars, AS.resVar, AS.ivOf, AS.ivsOf, AS.resC, AS.resCs, resCs_map, C.flat, AS.get, AS.obj, AS.ups, AS.put, List.lookup, res46, tab3, tab4, tab9, tab22, tab24, tab25, tab69, dkids, *]
                          · exfalso; simp_all
                        · try simp at hb21
                          refine awp_seq_k fun K28 hK28 => ?_
                          refine awp_region' ([]) ?_
                          simp [fxs, fxOf, dstOK, guardA, runOp, calleeOf, effOp, effBin, AS.ev, AS.get, AS.obj, AS.app, AS.ups, AS.put, AS.behind, AS.rowsOf, AS.resC, AS.resCs, resCs_map, AS.resIV, AS.resArgs, AS.evParts, fillA, AS.fillRows, effCall, ivAV, ivAVs, avOf, acOf, A1.cells, C.flat, List.lookup, Fx.Holds, AS.behindRegion, AS.apps, thenA, inBlockA, InI64, splice, tab3, tab4, tab9, tab22, tab24, tab25, tab69]
                          repeat (refine ⟨by first | assumption | omega, ?_⟩)
                          apply hK28
                          try clear hK28 K28
                          refine awp_cond rfl (fun hb23 => ?_) (fun hb23 => ?_)
                          · try simp at hb23
                            refine awp_skip ?_
                            try simp only [thenA, inBlockA]
                            apply hK23
                            try clear hK23 K23
                            refine awp_cond rfl (fun hb24 => ?_) (fun hb24 => ?_)
                            · try simp at hb24
                              refine awp_seq_k fun K29 hK29 => ?_
                              refine awp_region' ([]) ?_
                              simp [fxs, fxOf, dstOK, guardA, runOp, calleeOf, effOp, effBin, AS.ev, AS.get, AS.obj, AS.app, AS.ups, AS.put, AS.behind, AS.rowsOf, AS.resC, AS.resCs, resCs_map, AS.resIV, AS.resArgs, AS.evParts, fillA, AS.fillRows, effCall, ivAV, ivAVs, avOf, acOf, A1.cells, C.flat, List.lookup, Fx.Holds, AS.behindRegion, AS.apps, thenA, inBlockA, InI64, splice, tab3, tab4, tab9, tab22, tab24, tab25, tab69]
                              repeat (refine ⟨by first | assumption | omega, ?_⟩)
                              apply hK29
                              try clear hK29 K29
                              refine awp_ret ?_
                              try simp only [thenA, inBlockA]
                              rw [← hQ]
                              refine ⟨by first | exact .inl rfl | exact .inr rfl, ?_⟩
                              simp [AS.result, AS.resVars, AS.resVar, AS.ivOf, AS.ivsOf, AS.resC, AS.resCs, resCs_map, C.flat, AS.get, AS.obj, AS.ups, AS.put, List.lookup, res46, tab3, tab4, tab9, tab22, tab24, tab25, tab69, dkids, *]
                            · exfalso; simp_all
                          · try simp at hb23
                            refine awp_seq_k fun K30 hK30 => ?_
                            refine awp_region' ([]) ?_
                            simp [fxs, fxOf, dstOK, guardA, runOp, calleeOf, effOp, effBin, AS.ev, AS.get, AS.obj, AS.app, AS.ups, AS.put, AS.behind, AS.rowsOf, AS.resC, AS.resCs, resCs_map, AS.resIV, AS.resArgs, AS.evParts, fillA, AS.fillRows, effCall, ivAV, ivAVs, avOf, acOf, A1.cells, C.flat, List.lookup, Fx.Holds, AS.behindRegion, AS.apps, thenA, inBlockA, InI64, splice, tab3, tab4, tab9, tab22, tab24, tab25, tab69]
                            repeat (refine ⟨by first | assumption | omega, ?_⟩)
                            apply hK30
                            try clear hK30 K30
                            refine awp_cond rfl (fun hb25 => ?_) (fun hb25 => ?_)
                            · try simp at hb25
                              refine awp_skip ?_
                              try simp only [thenA, inBlockA]
                              apply hK23
                              try clear hK23 K23
                              refine awp_cond rfl (fun hb26 => ?_) (fun hb26 => ?_)
                              · try simp at hb26
                                refine awp_seq_k fun K31 hK31 => ?_
                                refine awp_region' ([]) ?_
                                simp [fxs, fxOf, dstOK, guardA, runOp, calleeOf, effOp, effBin, AS.ev, AS.get, AS.obj, AS.app, AS.ups, AS.put, AS.behind, AS.rowsOf, AS.resC, AS.resCs, resCs_map, AS.resIV, AS.resArgs, AS.evParts, fillA, AS.fillRows, effCall, ivAV, ivAVs, avOf, acOf, A1.cells, C.flat, List.lookup, Fx.Holds, AS.behindRegion, AS.apps, thenA, inBlockA, InI64, splice, tab3, tab4, tab9, tab22, tab24, tab25, tab69]
                                repeat (refine ⟨by first | assumption | omega, ?_⟩)
                                apply hK31
                                try clear hK31 K31
                                refine awp_ret ?_
                                try simp only [thenA, inBlockA]
                                rw [← hQ]
                                refine ⟨by first | exact .inl rfl | exact .inr rfl, ?_⟩
                                simp [AS.result, AS.resVars, AS.resVar, AS.ivOf, AS.ivsOf, AS.resC, AS.resCs, resCs_map, C.flat, AS.get, AS.obj, AS.ups, AS.put, List.lookup, res46, tab3, tab4, tab9, tab22, tab24, tab25, tab69, dkids, *]
                              · exfalso; simp_all
                            · try simp at hb25
                              refine awp_seq_k fun K32 hK32 => ?_
                              refine awp_region' ([]) ?_
                              simp [fxs, fxOf, dstOK, guardA, runOp, calleeOf, effOp, effBin, AS.ev, AS.get, AS.obj, AS.app, AS.ups, AS.put, AS.behind, AS.rowsOf, AS.resC, AS.resCs, resCs_map, AS.resIV, AS.resArgs, AS.evParts, fillA, AS.fillRows, effCall, ivAV, ivAVs, avOf, acOf, A1.cells, C.flat, List.lookup, Fx.Holds, AS.behindRegion, AS.apps, thenA, inBlockA, InI64, splice, tab3, tab4, tab9, tab22, tab24, tab25, tab69]
                              repeat (refine ⟨by first | assumption | omega, ?_⟩)
                              apply hK32
                              try clear hK32 K32
                              refine awp_cond rfl (fun hb27 => ?_) (fun hb27 => ?_)
                              · try simp at hb27
                                refine awp_skip ?_
                                try simp only [thenA, inBlockA]
                                apply hK23
                                try clear hK23 K23
                                refine awp_cond rfl (fun hb28 => ?_) (fun hb28 => ?_)
                                · try simp at hb28
                                  refine awp_seq_k fun K33 hK33 => ?_
                                  refine awp_region' ([]) ?_
                                  simp [fxs, fxOf, dstOK, guardA, runOp, calleeOf, effOp, effBin, AS.ev, AS.get, AS.obj, AS.app, AS.ups, AS.put, AS.behind, AS.rowsOf, AS.resC, AS.resCs, resCs_map, AS.resIV, AS.resArgs, AS.evParts, fillA, AS.fillRows, effCall, ivAV, ivAVs, avOf, acOf, A1.cells, C.flat, List.lookup, Fx.Holds, AS.behindRegion, AS.apps, thenA, inBlockA, InI64, splice, tab3, tab4, tab9, tab22, tab24, tab25, tab69]
                                  repeat (refine ⟨by first | assumption | omega, ?_⟩)
                                  apply hK33
                                  try clear hK33 K33
                                  refine awp_ret ?_
                                  try simp only [thenA, inBlockA]
                                  rw [← hQ]
                                  refine ⟨by first | exact .inl rfl | exact .inr rfl, ?_⟩
                                  simp [AS.result, AS.resVars, AS.resVar, AS.ivOf, AS.ivsOf, AS.resC, AS.resCs, resCs_map, C.flat, AS.get, AS.obj, AS.ups, AS.put, List.lookup, res46, tab3, tab4, tab9, tab22, tab24, tab25, tab69, dkids, *]
                                · exfalso; simp_all
                              · try simp at hb27
                                refine awp_seq_k fun K34 hK34 => ?_
                                refine awp_region' ([]) ?_
                                simp [fxs, fxOf, dstOK, guardA, runOp, calleeOf, effOp, effBin, AS.ev, AS.get, AS.obj, AS.app, AS.ups, AS.put, AS.behind, AS.rowsOf, AS.resC, AS.resCs, resCs_map, AS.resIV, AS.resArgs, AS.evParts, fillA, AS.fillRows, effCall, ivAV, ivAVs, avOf, acOf, A1.cells, C.flat, List.lookup, Fx.Holds, AS.behindRegion, AS.apps, thenA, inBlockA, InI64, splice, tab3, tab4, tab9, tab22, tab24, tab25, tab69]
                                repeat (refine ⟨by first | assumption | omega, ?_⟩)
                                apply hK34
                                try clear hK34 K34
                                refine awp_cond rfl (fun hb29 => ?_) (fun hb29 => ?_)
                                · try simp at hb29
                                  refine awp_skip ?_
                                  try simp only [thenA, inBlockA]
                                  apply hK23
                                  try clear hK23 K23
                                  refine awp_cond rfl (fun hb30 => ?_) (fun hb30 => ?_)
                                  · try simp at hb30
                                    refine awp_seq_k fun K35 hK35 => ?_
                                    refine awp_region' ([]) ?_
                                    simp [fxs, fxOf, dstOK, guardA, runOp, calleeOf, effOp, effBin, AS.ev, AS.get, AS.obj, AS.app, AS.ups, AS.put, AS.behind, AS.rowsOf, AS.resC, AS.resCs, resCs_map, AS.resIV, AS.resArgs, AS.evParts, fillA, AS.fillRows, effCall, ivAV, ivAVs, avOf, acOf, A1.cells, C.flat, List.lookup, Fx.Holds, AS.behindRegion, AS.apps, thenA, inBlockA, InI64, splice, tab3, tab4, tab9, tab22, tab24, tab25, tab69]
                                    repeat (refine ⟨by first | assumption | omega, ?_⟩)
                                    apply hK35
                                    try clear hK35 K35
                                    refine awp_ret ?_
                                    try simp only [thenA, inBlockA]
                                    rw [← hQ]
                                    refine ⟨by first | exact .inl rfl | exact .inr rfl, ?_⟩
                                    simp [AS.result, AS.resVars, AS.resVar, AS.ivOf, AS.ivsOf, AS.resC, AS.resCs, resCs_map, C.flat, AS.get, AS.obj, AS.ups, AS.put, List.lookup, res46, tab3, tab4, tab9, tab22, tab24, tab25, tab69, dkids, *]
                                  · exfalso; simp_all
                                · try simp at hb29
                                  refine awp_seq_k fun K36 hK36 => ?_
                                  refine awp_region' ([]) ?_
                                  simp [fxs, fxOf, dstOK, guardA, runOp, calleeOf, effOp, effBin, AS.ev, AS.get, AS.obj, AS.app, AS.ups, AS.put, AS.behind, AS.rowsOf, AS.resC, AS.resCs, resCs_map, AS.resIV, AS.resArgs, AS.evParts, fillA, AS.fillRows, effCall, ivAV, ivAVs, avOf, acOf, A1.cells, C.flat, List.lookup, Fx.Holds, AS.behindRegion, AS.apps, thenA, inBlockA, InI64, splice, tab3, tab4, tab9, tab22, tab24, tab25, tab69]
                                  repeat (refine ⟨by first | assumption | omega, ?_⟩)
                                  apply hK36
                                  try clear hK36 K36
                                  refine awp_cond rfl (fun hb31 => ?_) (fun hb31 => ?_)
                                  · try simp at hb31
                                    refine awp_skip ?_
                                    try simp only [thenA, inBlockA]
                                    apply hK23
                                    try clear hK23 K23
                                    refine awp_cond rfl (fun hb32 => ?_) (fun hb32 => ?_)
                                    · try simp at hb32
                                      refine awp_seq_k fun K37 hK37 => ?_
                                      refine awp_region' ([]) ?_
                                      simp [fxs, fxOf, dstOK, guardA, runOp, calleeOf, effOp, effBin, AS.ev, AS.get, AS.obj, AS.app, AS.ups, AS.put, AS.behind, AS.rowsOf, AS.resC, AS.resCs, resCs_map, AS.resIV, AS.resArgs, AS.evParts, fillA, AS.fillRows, effCall, ivAV, ivAVs, avOf, acOf, A1.cells, C.flat, List.lookup, Fx.Holds, AS.behindRegion, AS.apps, thenA, inBlockA, InI64, splice, tab3, tab4, tab9, tab22, tab24, tab25, tab69]
                                      repeat (refine ⟨by first | assumption | omega, ?_⟩)
                                      apply hK37
                                      try clear hK37 K37
                                      refine awp_ret ?_
                                      try simp only [thenA, inBlockA]
                                      rw [← hQ]
                                      refine ⟨by first | exact .inl rfl | exact .inr rfl, ?_⟩
                                      simp [AS.result, AS.resVars, AS.resVar, AS.ivOf, AS.ivsOf, AS.resC, AS.resCs, resCs_map, C.flat, AS.get, AS.obj, AS.ups, AS.put, List.lookup, res46, tab3, tab4, tab9, tab22, tab24, tab25, tab69, dkids, *]
                                    · exfalso; simp_all
                                  · try simp at hb31
                                    refine awp_seq_k fun K38 hK38 => ?_
                                    refine awp_region' ([]) ?_
                                    simp [fxs, fxOf, dstOK, guardA, runOp, calleeOf, effOp, effBin, AS.ev, AS.get, AS.obj, AS.app, AS.ups, AS.put, AS.behind, AS.rowsOf, AS.resC, AS.resCs, resCs_map, AS.resIV, AS.resArgs, AS.evParts, fillA, AS.fillRows, effCall, ivAV, ivAVs, avOf, acOf, A1.cells, C.flat, List.lookup, Fx.Holds, AS.behindRegion, AS.apps, thenA, inBlockA, InI64, splice, tab3, tab4, tab9, tab22, tab24, tab25, tab69]
                                    repeat (refine ⟨by first | assumption | omega, ?_⟩)
                                    apply hK38
                                    try clear hK38 K38
                                    refine awp_cond rfl (fun hb33 => ?_) (fun hb33 => ?_)
                                    · try simp at hb33
                                      refine awp_skip ?_
                                      try simp only [thenA, inBlockA]
                                      apply hK23
                                      try clear hK23 K23
                                      refine awp_cond rfl (fun hb34 => ?_) (fun hb34 => ?_)
                                      · try simp at hb34
                                        refine awp_seq_k fun K39 hK39 => ?_
                                        refine awp_region' ([]) ?_
                                        simp [fxs, fxOf, dstOK, guardA, runOp, calleeOf, effOp, effBin, AS.ev, AS.get, AS.obj, AS.app, AS.ups, AS.put, AS.behind, AS.rowsOf, AS.resC, AS.resCs, resCs_map, AS.resIV, AS.resArgs, AS.evParts, fillA, AS.fillRows, effCall, ivAV, ivAVs, avOf, acOf, A1.cells, C.flat, List.lookup, Fx.Holds, AS.behindRegion, AS.apps, thenA, inBlockA, InI64, splice, tab3, tab4, tab9, tab22, tab24, tab25, tab69]
                                        repeat (refine ⟨by first | assumption | omega, ?_⟩)
                                        apply hK39
                                        try clear hK39 K39
                                        refine awp_ret ?_
                                        try simp only [thenA, inBlockA]
                                        rw [← hQ]
                                        refine ⟨by first | exact .inl rfl | exact .inr rfl, ?_⟩
                                        simp [AS.result, AS.resVars, AS.resVar, AS.ivOf, AS.ivsOf, AS.resC, AS.resCs, resCs_map, C.flat, AS.get, AS.obj, AS.ups, AS.put, List.lookup, res46, tab3, tab4, tab9, tab22, tab24, tab25, tab69, dkids, *]
                                      · exfalso; simp_all
                                    · try simp at hb33
                                      refine awp_seq_k fun K40 hK40 => ?_
                                      refine awp_region' ([]) ?_
                                      simp [fxs, fxOf, dstOK, guardA, runOp, calleeOf, effOp, effBin, AS.ev, AS.get, AS.obj, AS.app, AS.ups, AS.put, AS.behind, AS.rowsOf, AS.resC, AS.resCs, resCs_map, AS.resIV, AS.resArgs, AS.evParts, fillA, AS.fillRows, effCall, ivAV, ivAVs, avOf, acOf, A1.cells, C.flat, List.lookup, Fx.Holds, AS.behindRegion, AS.apps, thenA, inBlockA, InI64, splice, tab3, tab4, tab9, tab22, tab24, tab25, tab69]
                                      repeat (refine ⟨by first | assumption | omega, ?_⟩)
                                      apply hK40
                                      try clear hK40 K40
                                      refine awp_cond rfl (fun hb35 => ?_) (fun hb35 => ?_)
                                      · try simp at hb35
                                        refine awp_skip ?_
                                        try simp only [thenA, inBlockA]
                                        apply hK23
                                        try clear hK23 K23
                                        refine awp_cond rfl (fun hb36 => ?_) (fun hb36 => ?_)
                                        · try simp at hb36
                                          refine awp_seq_k fun K41 hK41 => ?_
                                          refine awp_region' ([]) ?_
                                          simp [fxs, fxOf, dstOK, guardA, runOp, calleeOf, effOp, effBin, AS.ev, AS.get, AS.obj, AS.app, AS.ups, AS.put, AS.behind, AS.rowsOf, AS.resC, AS.resCs, resCs_map, AS.resIV, AS.resArgs, AS.evParts, fillA, AS.fillRows, effCall, ivAV, ivAVs, avOf, acOf, A1.cells, C.flat, List.lookup, Fx.Holds, AS.behindRegion, AS.apps, thenA, inBlockA, InI64, splice, tab3, tab4, tab9, tab22, tab24, tab25, tab69]
                                          repeat (refine ⟨by first | assumption | omega, ?_⟩)
                                          apply hK41
                                          try clear hK41 K41
                                          refine awp_ret ?_
                                          try simp only [thenA, inBlockA]
                                          rw [← hQ]
                                          refine ⟨by first | exact .inl rfl | exact .inr rfl, ?_⟩
                                          simp [AS.result, AS.resVars, AS.resVar, AS.ivOf, AS.ivsOf, AS.resC, AS.resCs, resCs_map, C.flat, AS.get, AS.obj, AS.ups, AS.put, List.lookup, res46, tab3, tab4, tab9, tab22, tab24, tab25, tab69, dkids, *]
                                        · exfalso; simp_all
                                      · try simp at hb35
                                        refine awp_seq_k fun K42 hK42 => ?_
                                        refine awp_region' ([]) ?_
                                        simp [fxs, fxOf, dstOK, guardA, runOp, calleeOf, effOp, effBin, AS.ev, AS.get, AS.obj, AS.app, AS.ups, AS.put, AS.behind, AS.rowsOf, AS.resC, AS.resCs, resCs_map, AS.resIV, AS.resArgs, AS.evParts, fillA, AS.fillRows, effCall, ivAV, ivAVs, avOf, acOf, A1.cells, C.flat, List.lookup, Fx.Holds, AS.behindRegion, AS.apps, thenA, inBlockA, InI64, splice, tab3, tab4, tab9, tab22, tab24, tab25, tab69]
                                        repeat (refine ⟨by first | assumption | omega, ?_⟩)
                                        apply hK42
                                        try clear hK42 K42
                                        refine awp_cond rfl (fun hb37 => ?_) (fun hb37 => ?_)
                                        · try simp at hb37
                                          refine awp_skip ?_
                                          try simp only [thenA, inBlockA]
                                          apply hK23
                                          try clear hK23 K23
                                          refine awp_cond rfl (fun hb38 => ?_) (fun hb38 => ?_)
                                          · try simp at hb38
                                            refine awp_seq_k fun K43 hK43 => ?_
                                            refine awp_region' ([]) ?_
                                            simp [fxs, fxOf, dstOK, guardA, runOp, calleeOf, effOp, effBin, AS.ev, AS.get, AS.obj, AS.app, AS.ups, AS.put, AS.behind, AS.rowsOf, AS.resC, AS.resCs, resCs_map, AS.resIV, AS.resArgs, AS.evParts, fillA, AS.fillRows, effCall, ivAV, ivAVs, avOf, acOf, A1.cells, C.flat, List.lookup, Fx.Holds, AS.behindRegion, AS.apps, thenA, inBlockA, InI64, splice, tab3, tab4, tab9, tab22, tab24, tab25, tab69]
                                            repeat (refine ⟨by first | assumption | omega, ?_⟩)
                                            apply hK43
                                            try clear hK43 K43
                                            refine awp_ret ?_
                                            try simp only [thenA, inBlockA]
                                            rw [← hQ]
                                            refine ⟨by first | exact .inl rfl | exact .inr rfl, ?_⟩
                                            simp [AS.result, AS.resVars, AS.resVar, AS.ivOf, AS.ivsOf, AS.resC, AS.resCs, resCs_map, C.flat, AS.get, AS.obj, AS.ups, AS.put, List.lookup, res46, tab3, tab4, tab9, tab22, tab24, tab25, tab69, dkids, *]
                                          · exfalso; simp_all
                                        · try simp at hb37
                                          refine awp_seq_k fun K44 hK44 => ?_
                                          refine awp_region' ([]) ?_
                                          simp [fxs, fxOf, dstOK, guardA, runOp, calleeOf, effOp, effBin, AS.ev, AS.get, AS.obj, AS.app, AS.ups, AS.put, AS.behind, AS.rowsOf, AS.resC, AS.resCs, resCs_map, AS.resIV, AS.resArgs, AS.evParts, fillA, AS.fillRows, effCall, ivAV, ivAVs, avOf, acOf, A1.cells, C.flat, List.lookup, Fx.Holds, AS.behindRegion, AS.apps, thenA, inBlockA, InI64, splice, tab3, tab4, tab9, tab22, tab24, tab25, tab69]
                                          repeat (refine ⟨by first | assumption | omega, ?_⟩)
                                          apply hK44
                                          try clear hK44 K44
                                          refine awp_cond rfl (fun hb39 => ?_) (fun hb39 => ?_)
                                          · try simp at hb39
                                            refine awp_skip ?_
                                            try simp only [thenA, inBlockA]
                                            apply hK23
                                            try clear hK23 K23
                                            refine awp_cond rfl (fun hb40 => ?_) (fun hb40 => ?_)
                                            · try simp at hb40
                                              refine awp_seq_k fun K45 hK45 => ?_
                                              refine awp_region' ([]) ?_
                                              simp [fxs, fxOf, dstOK, guardA, runOp, calleeOf, effOp, effBin, AS.ev, AS.get, AS.obj, AS.app, AS.ups, AS.put, AS.behind, AS.rowsOf, AS.resC, AS.resCs, resCs_map, AS.resIV, AS.resArgs, AS.evParts, fillA, AS.fillRows, effCall, ivAV, ivAVs, avOf, acOf, A1.cells, C.flat, List.lookup, Fx.Holds, AS.behindRegion, AS.apps, thenA, inBlockA, InI64, splice, tab3, tab4, tab9, tab22, tab24, tab25, tab69]
                                              repeat (refine ⟨by first | assumption | omega, ?_⟩)
                                              apply hK45
                                              try clear hK45 K45
                                              refine awp_ret ?_
                                              try simp only [thenA, inBlockA]
                                              rw [← hQ]
                                              refine ⟨by first | exact .inl rfl | exact .inr rfl, ?_⟩
                                              simp [AS.result, AS.resVars, AS.resVar, AS.ivOf, AS.ivsOf, AS.resC, AS.resCs, resCs_map, C.flat, AS.get, AS.obj, AS.ups, AS.put, List.lookup, res46, tab3, tab4, tab9, tab22, tab24, tab25, tab69, dkids, *]
                                            · exfalso; simp_all
                                          · try simp at hb39
                                            refine awp_seq_k fun K46 hK46 => ?_
                                            refine awp_region' ([]) ?_
                                            simp [fxs, fxOf, dstOK, guardA, runOp, calleeOf, effOp, effBin, AS.ev, AS.get, AS.obj, AS.app, AS.ups, AS.put, AS.behind, AS.rowsOf, AS.resC, AS.resCs, resCs_map, AS.resIV, AS.resArgs, AS.evParts, fillA, AS.fillRows, effCall, ivAV, ivAVs, avOf, acOf, A1.cells, C.flat, List.lookup, Fx.Holds, AS.behindRegion, AS.apps, thenA, inBlockA, InI64, splice, tab3, tab4, tab9, tab22, tab24, tab25, tab69]
                                            repeat (refine ⟨by first | assumption | omega, ?_⟩)
                                            apply hK46
                                            try clear hK46 K46
                                            refine awp_cond rfl (fun hb41 => ?_) (fun hb41 => ?_)
                                            · try simp at hb41
                                              refine awp_skip ?_
                                              try simp only [thenA, inBlockA]
                                              apply hK23
                                              try clear hK23 K23
                                              refine awp_cond rfl (fun hb42 => ?_) (fun hb42 => ?_)
                                              · try simp at hb42
                                                refine awp_seq_k fun K47 hK47 => ?_
                                                refine awp_region' ([]) ?_
                                                simp [fxs, fxOf, dstOK, guardA, runOp, calleeOf, effOp, effBin, AS.ev, AS.get, AS.obj, AS.app, AS.ups, AS.put, AS.behind, AS.rowsOf, AS.resC, AS.resCs, resCs_map, AS.resIV, AS.resArgs, AS.evParts, fillA, AS.fillRows, effCall, ivAV, ivAVs, avOf, acOf, A1.cells, C.flat, List.lookup, Fx.Holds, AS.behindRegion, AS.apps, thenA, inBlockA, InI64, splice, tab3, tab4, tab9, tab22, tab24, tab25, tab69]
                                                repeat (refine ⟨by first | assumption | omega, ?_⟩)
                                                apply hK47
                                                try clear hK47 K47
                                                refine awp_ret ?_
                                                try simp only [thenA, inBlockA]
                                                rw [← hQ]
                                                refine ⟨by first | exact .inl rfl | exact .inr rfl, ?_⟩
                                                simp [AS.result, AS.resVars, AS.resVar, AS.ivOf, AS.ivsOf, AS.resC, AS.resCs, resCs_map, C.flat, AS.get, AS.obj, AS.ups, AS.put, List.lookup, res46, tab3, tab4, tab9, tab22, tab24, tab25, tab69, dkids, *]
                                              · exfalso; simp_all
                                            · try simp at hb41
                                              refine awp_region' ([]) ?_
                                              simp [fxs, fxOf, dstOK, guardA, runOp, calleeOf, effOp, effBin, AS.ev, AS.get, AS.obj, AS.app, AS.ups, AS.put, AS.behind, AS.rowsOf, AS.resC, AS.resCs, resCs_map, AS.resIV, AS.resArgs, AS.evParts, fillA, AS.fillRows, effCall, ivAV, ivAVs, avOf, acOf, A1.cells, C.flat, List.lookup, Fx.Holds, AS.behindRegion, AS.apps, thenA, inBlockA, InI64, splice, tab3, tab4, tab9, tab22, tab24, tab25, tab69]
                                              repeat (refine ⟨by first | assumption | omega, ?_⟩)
                                              apply hK23
                                              try clear hK23 K23
                                              refine awp_cond rfl (fun hb43 => ?_) (fun hb43 => ?_)
                                              · try simp at hb43
                                                refine awp_seq_k fun K48 hK48 => ?_
                                                refine awp_region' ([]) ?_
                                                simp [fxs, fxOf, dstOK, guardA, runOp, calleeOf, effOp, effBin, AS.ev, AS.get, AS.obj, AS.app, AS.ups, AS.put, AS.behind, AS.rowsOf, AS.resC, AS.resCs, resCs_map, AS.resIV, AS.resArgs, AS.evParts, fillA, AS.fillRows, effCall, ivAV, ivAVs, avOf, acOf, A1.cells, C.flat, List.lookup, Fx.Holds, AS.behindRegion, AS.apps, thenA, inBlockA, InI64, splice, tab3, tab4, tab9, tab22, tab24, tab25, tab69]
                                                repeat (refine ⟨by first | assumption | omega, ?_⟩)
                                                apply hK48
                                                try clear hK48 K48
                                                refine awp_ret ?_
                                                try simp only [thenA, inBlockA]
                                                rw [← hQ]
                                                refine ⟨by first | exact .inl rfl | exact .inr rfl, ?_⟩
                                                simp [AS.result, AS.resVars, AS.resVar, AS.ivOf, AS.ivsOf, AS.resC, AS.resCs, resCs_map, C.flat, AS.get, AS.obj, AS.ups, AS.put, List.lookup, res46, tab3, tab4, tab9, tab22, tab24, tab25, tab69, dkids, *]
                                              · try simp at hb43
                                                refine awp_seq_k fun K49 hK49 => ?_
                                                refine awp_seq_k fun K50 hK50 => ?_
                                                refine awp_region' ([]) ?_
                                                simp [fxs, fxOf, dstOK, guardA, runOp, calleeOf, effOp, effBin, AS.ev, AS.get, AS.obj, AS.app, AS.ups, AS.put, AS.behind, AS.rowsOf, AS.resC, AS.resCs, resCs_map, AS.resIV, AS.resArgs, AS.evParts, fillA, AS.fillRows, effCall, ivAV, ivAVs, avOf, acOf, A1.cells, C.flat, List.lookup, Fx.Holds, AS.behindRegion, AS.apps, thenA, inBlockA, InI64, splice, tab3, tab4, tab9, tab22, tab24, tab25, tab69]
                                                repeat (refine ⟨by first | assumption | omega, ?_⟩)
                                                apply hK50
                                                try clear hK50 K50
                                                refine awp_cond rfl (fun hb44 => ?_) (fun hb44 => ?_)
                                                · try simp at hb44
                                                  refine awp_skip ?_
                                                  try simp only [thenA, inBlockA]
                                                  apply hK49
                                                  try clear hK49 K49
                                                  refine awp_cond rfl (fun hb45 => ?_) (fun hb45 => ?_)
                                                  · try simp at hb45
                                                    refine awp_seq_k fun K51 hK51 => ?_
                                                    refine awp_region' ([]) ?_
                                                    simp [fxs, fxOf, dstOK, guardA, runOp, calleeOf, effOp, effBin, AS.ev, AS.get, AS.obj, AS.app, AS.ups, AS.put, AS.behind, AS.rowsOf, AS.resC, AS.resCs, resCs_map, AS.resIV, AS.resArgs, AS.evParts, fillA, AS.fillRows, effCall, ivAV, ivAVs, avOf, acOf, A1.cells, C.flat, List.lookup, Fx.Holds, AS.behindRegion, AS.apps, thenA, inBlockA, InI64, splice, tab3, tab4, tab9, tab22, tab24, tab25, tab69]
                                                    repeat (refine ⟨by first | assumption | omega, ?_⟩)
                                                    apply hK51
                                                    try clear hK51 K51
                                                    refine awp_ret ?_
                                                    try simp only [thenA, inBlockA]
                                                    rw [← hQ]
                                                    refine ⟨by first | exact .inl rfl | exact .inr rfl, ?_⟩
                                                    simp [AS.result, AS.resVars, AS.resVar, AS.ivOf, AS.ivsOf, AS.resC, AS.resCs, resCs_map, C.flat, AS.get, AS.obj, AS.ups, AS.put, List.lookup, res46, tab3, tab4, tab9, tab22, tab24, tab25, tab69, dkids, *]
                                                  · exfalso; simp_all
                                                · try simp at hb44
                                                  refine awp_seq_k fun K52 hK52 => ?_
                                                  refine awp_region' ([]) ?_
                                                  simp [fxs, fxOf, dstOK, guardA, runOp, calleeOf, effOp, effBin, AS.ev, AS.get, AS.obj, AS.app, AS.ups, AS.put, AS.behind, AS.rowsOf, AS.resC, AS.resCs, resCs_map, AS.resIV, AS.resArgs, AS.evParts, fillA, AS.fillRows, effCall, ivAV, ivAVs, avOf, acOf, A1.cells, C.flat, List.lookup, Fx.Holds, AS.behindRegion, AS.apps, thenA, inBlockA, InI64, splice, tab3, tab4, tab9, tab22, tab24, tab25, tab69]
                                                  repeat (refine ⟨by first | assumption | omega, ?_⟩)
                                                  apply hK52
                                                  try clear hK52 K52
                                                  refine awp_cond rfl (fun hb46 => ?_) (fun hb46 => ?_)
                                                  · try simp at hb46
                                                    refine awp_skip ?_
                                                    try simp only [thenA, inBlockA]
                                                    apply hK49
                                                    try clear hK49 K49
                                                    refine awp_cond rfl (fun hb47 => ?_) (fun hb47 => ?_)
                                                    · try simp at hb47
                                                      refine awp_seq_k fun K53 hK53 => ?_
                                                      refine awp_region' ([]) ?_
                                                      simp [fxs, fxOf, dstOK, guardA, runOp, calleeOf, effOp, effBin, AS.ev, AS.get, AS.obj, AS.app, AS.ups, AS.put, AS.behind, AS.rowsOf, AS.resC, AS.resCs, resCs_map, AS.resIV, AS.resArgs, AS.evParts, fillA, AS.fillRows, effCall, ivAV, ivAVs, avOf, acOf, A1.cells, C.flat, List.lookup, Fx.Holds, AS.behindRegion, AS.apps, thenA, inBlockA, InI64, splice, tab3, tab4, tab9, tab22, tab24, tab25, tab69]
                                                      repeat (refine ⟨by first | assumption | omega, ?_⟩)
                                                      apply hK53
                                                      try clear hK53 K53
                                                      refine awp_ret ?_
                                                      try simp only [thenA, inBlockA]
                                                      rw [← hQ]
                                                      refine ⟨by first | exact .inl rfl | exact .inr rfl, ?_⟩
                                                      simp [AS.result, AS.resVars, AS.resVar, AS.ivOf, AS.ivsOf, AS.resC, AS.resCs, resCs_map, C.flat, AS.get, AS.obj, AS.ups, AS.put, List.lookup, res46, tab3, tab4, tab9, tab22, tab24, tab25, tab69, dkids, *]
                                                    · exfalso; simp_all
                                                  · try simp at hb46
                                                    refine awp_seq_k fun K54 hK54 => ?_
                                                    refine awp_region' ([]) ?_
                                                    simp [fxs, fxOf, dstOK, guardA, runOp, calleeOf, effOp, effBin, AS.ev, AS.get, AS.obj, AS.app, AS.ups, AS.put, AS.behind, AS.rowsOf, AS.resC, AS.resCs, resCs_map, AS.resIV, AS.resArgs, AS.evParts, fillA, AS.fillRows, effCall, ivAV, ivAVs, avOf, acOf, A1.cells, C.flat, List.lookup, Fx.Holds, AS.behindRegion, AS.apps, thenA, inBlockA, InI64, splice, tab3, tab4, tab9, tab22, tab24, tab25, tab69]
                                                    repeat (refine ⟨by first | assumption | omega, ?_⟩)
                                                    apply hK54
                                                    try clear hK54 K54
                                                    refine awp_cond rfl (fun hb48 => ?_) (fun hb48 => ?_)
                                                    · try simp at hb48
                                                      refine awp_skip ?_
                                                      try simp only [thenA, inBlockA]
                                                      apply hK49
                                                      try clear hK49 K49
                                                      refine awp_cond rfl (fun hb49 => ?_) (fun hb49 => ?_)
                                                      · try simp at hb49
                                                        refine awp_seq_k fun K55 hK55 => ?_
                                                        refine awp_region' ([]) ?_
                                                        simp [fxs, fxOf, dstOK, guardA, runOp, calleeOf, effOp, effBin, AS.ev, AS.get, AS.obj, AS.app, AS.ups, AS.put, AS.behind, AS.rowsOf, AS.resC, AS.resCs, resCs_map, AS.resIV, AS.resArgs, AS.evParts, fillA, AS.fillRows, effCall, ivAV, ivAVs, avOf, acOf, A1.cells, C.flat, List.lookup, Fx.Holds, AS.behindRegion, AS.apps, thenA, inBlockA, InI64, splice, tab3, tab4, tab9, tab22, tab24, tab25, tab69]
                                                        repeat (refine ⟨by first | assumption | omega, ?_⟩)
                                                        apply hK55
                                                        try clear hK55 K55
                                                        refine awp_ret ?_
                                                        try simp only [thenA, inBlockA]
                                                        rw [← hQ]
                                                        refine ⟨by first | exact .inl rfl | exact .inr rfl, ?_⟩
                                                        simp [AS.result, AS.resVars, AS.resVar, AS.ivOf, AS.ivsOf, AS.resC, AS.resCs, resCs_map, C.flat, AS.get, AS.obj, AS.ups, AS.put, List.lookup, res46, tab3, tab4, tab9, tab22, tab24, tab25, tab69, dkids, *]
                                                      · exfalso; simp_all
                                                    · try simp at hb48
                                                      refine awp_region' ([]) ?_
                                                      simp [fxs, fxOf, dstOK, guardA, runOp, calleeOf, effOp, effBin, AS.ev, AS.get, AS.obj, AS.app, AS.ups, AS.put, AS.behind, AS.rowsOf, AS.resC, AS.resCs, resCs_map, AS.resIV, AS.resArgs, AS.evParts, fillA, AS.fillRows, effCall, ivAV, ivAVs, avOf, acOf, A1.cells, C.flat, List.lookup, Fx.Holds, AS.behindRegion, AS.apps, thenA, inBlockA, InI64, splice, tab3, tab4, tab9, tab22, tab24, tab25, tab69]
                                                      repeat (refine ⟨by first | assumption | omega, ?_⟩)
                                                      apply hK49
                                                      try clear hK49 K49
                                                      refine awp_cond rfl (fun hb50 => ?_) (fun hb50 => ?_)
                                                      · try simp at hb50
                                                        refine awp_seq_k fun K56 hK56 => ?_
                                                        refine awp_region' ([]) ?_
                                                        simp [fxs, fxOf, dstOK, guardA, runOp, calleeOf, effOp, effBin, AS.ev, AS.get, AS.obj, AS.app, AS.ups, AS.put, AS.behind, AS.rowsOf, AS.resC, AS.resCs, resCs_map, AS.resIV, AS.resArgs, AS.evParts, fillA, AS.fillRows, effCall, ivAV, ivAVs, avOf, acOf, A1.cells, C.flat, List.lookup, Fx.Holds, AS.behindRegion, AS.apps, thenA, inBlockA, InI64, splice, tab3, tab4, tab9, tab22, tab24, tab25, tab69]
                                                        repeat (refine ⟨by first | assumption | omega, ?_⟩)
                                                        apply hK56
                                                        try clear hK56 K56
                                                        refine awp_ret ?_
                                                        try simp only [thenA, inBlockA]
                                                        rw [← hQ]
                                                        refine ⟨by first | exact .inl rfl | exact .inr rfl, ?_⟩
                                                        simp [AS.result, AS.resVars, AS.resVar, AS.ivOf, AS.ivsOf, AS.resC, AS.resCs, resCs_map, C.flat, AS.get, AS.obj, AS.ups, AS.put, List.lookup, res46, tab3, tab4, tab9, tab22, tab24, tab25, tab69, dkids, *]
                                                      · try simp at hb50
                                                        refine awp_seq_k fun K57 hK57 => ?_
                                                        refine awp_region' ([]) ?_
                                                        simp [fxs, fxOf, dstOK, guardA, runOp, calleeOf, effOp, effBin, AS.ev, AS.get, AS.obj, AS.app, AS.ups, AS.put, AS.behind, AS.rowsOf, AS.resC, AS.resCs, resCs_map, AS.resIV, AS.resArgs, AS.evParts, fillA, AS.fillRows, effCall, ivAV, ivAVs, avOf, acOf, A1.cells, C.flat, List.lookup, Fx.Holds, AS.behindRegion, AS.apps, thenA, inBlockA, InI64, splice, tab3, tab4, tab9, tab22, tab24, tab25, tab69]
                                                        repeat (refine ⟨by first | assumption | omega, ?_⟩)
                                                        apply hK57
                                                        try clear hK57 K57
                                                        refine awp_cond rfl (fun hb51 => ?_) (fun hb51 => ?_)
                                                        · try simp at hb51
                                                          refine awp_seq_k fun K58 hK58 => ?_
                                                          refine awp_region' ([]) ?_
                                                          simp [fxs, fxOf, dstOK, guardA, runOp, calleeOf, effOp, effBin, AS.ev, AS.get, AS.obj, AS.app, AS.ups, AS.put, AS.behind, AS.rowsOf, AS.resC, AS.resCs, resCs_map, AS.resIV, AS.resArgs, AS.evParts, fillA, AS.fillRows, effCall, ivAV, ivAVs, avOf, acOf, A1.cells, C.flat, List.lookup, Fx.Holds, AS.behindRegion, AS.apps, thenA, inBlockA, InI64, splice, tab3, tab4, tab9, tab22, tab24, tab25, tab69]
                                                          repeat (refine ⟨by first | assumption | omega, ?_⟩)
                                                          apply hK58
                                                          try clear hK58 K58
                                                          refine awp_ret ?_
                                                          try simp only [thenA, inBlockA]
                                                          rw [← hQ]
                                                          refine ⟨by first | exact .inl rfl | exact .inr rfl, ?_⟩
                                                          simp [AS.result, AS.resVars, AS.resVar, AS.ivOf, AS.ivsOf, AS.resC, AS.resCs, resCs_map, C.flat, AS.get, AS.obj, AS.ups, AS.put, List.lookup, res46, tab3, tab4, tab9, tab22, tab24, tab25, tab69, dkids, *]
                                                        · try simp at hb51
                                                          refine awp_skip ?_
                                                          try simp only [thenA, inBlockA]
                                                          apply hK1
                                                          try clear hK1 K1
                                                          refine awp_seq_k fun K59 hK59 => ?_
                                                          refine awp_region' ([]) ?_
                                                          simp [fxs, fxOf, dstOK, guardA, runOp, calleeOf, effOp, effBin, AS.ev, AS.get, AS.obj, AS.app, AS.ups, AS.put, AS.behind, AS.rowsOf, AS.resC, AS.resCs, resCs_map, AS.resIV, AS.resArgs, AS.evParts, fillA, AS.fillRows, effCall, ivAV, ivAVs, avOf, acOf, A1.cells, C.flat, List.lookup, Fx.Holds, AS.behindRegion, AS.apps, thenA, inBlockA, InI64, splice, tab3, tab4, tab9, tab22, tab24, tab25, tab69]
                                                          repeat (refine ⟨by first | assumption | omega, ?_⟩)
                                                          apply hK59
                                                          try clear hK59 K59
                                                          refine awp_ret ?_
                                                          try simp only [thenA, inBlockA]
                                                          rw [← hQ]
                                                          refine ⟨by first | exact .inl rfl | exact .inr rfl, ?_⟩
                                                          simp [AS.result, AS.resVars, AS.resVar, AS.ivOf, AS.ivsOf, AS.resC, AS.resCs, resCs_map, C.flat, AS.get, AS.obj, AS.ups, AS.put, List.lookup, res46, tab3, tab4, tab9, tab22, tab24, tab25, tab69, dkids, *]
theorem call50 : Callable Try.prog 50 := callable_of Try.func50 (by kernel_rfl) (by kernel_rfl)
theorem res50 : Try.f50.results.toList = [.tmp 2] := rfl
set_option maxHeartbeats 4000000 in
set_option maxRecDepth 100000 in
theorem dequal_c (r : Int) : ACalls Try.prog 50 [.one (.int r)] (.v (.one (.bool (dequal r)))) true := by
  refine acalls_of_awp Try.func50 rfl call50 false (by rw [Try.ntmps50]; simp) fun w0 S => ?_
  rw [Try.ntmps50]
  generalize hQ : Done Try.prog false Try.f50.results.toList (.v (.one (.bool (dequal r)))) true = Q
  simp only [start, startEnv, argAV, Nat.zero_add, Nat.reduceAdd]
  refine awp_seq_k fun K0 hK0 => ?_
  refine awp_region' ([]) ?_
  simp [fxs, fxOf, dstOK, guardA, runOp, calleeOf, effOp, effBin, AS.ev, AS.get, AS.obj, AS.app, AS.ups, AS.put, AS.behind, AS.rowsOf, AS.resC, AS.resCs, resCs_map, AS.resIV, AS.resArgs, AS.evParts, fillA, AS.fillRows, effCall, ivAV, ivAVs, avOf, acOf, A1.cells, C.flat, List.lookup, Fx.Holds, AS.behindRegion, AS.apps, thenA, inBlockA, InI64, splice, tab3, tab4, tab9, tab22, tab24, tab25, tab69]
  repeat (refine ⟨by first | assumption | omega, ?_⟩)
  apply hK0
  try clear hK0 K0
  refine awp_cut [] ([(2, bv (dequal r))]) ([]) ?_ ?_ ?_
  · simp [wfs, AV.wf, A1.wf, AC.wf, Ob.wf, Below', iv, bv, tab3, tab4, tab9, tab22, tab24, tab25, tab69]
  · intro K1 hK1
    by_cases hs0 : 13 ≤ r
    · by_cases hs1 : r ≤ 28
      · refine awp_region' ([]) ?_
        simp [fxs, fxOf, dstOK, guardA, runOp, calleeOf, effOp, effBin, AS.ev, AS.get, AS.obj, AS.app, AS.ups, AS.put, AS.behind, AS.rowsOf, AS.resC, AS.resCs, resCs_map, AS.resIV, AS.resArgs, AS.evParts, fillA, AS.fillRows, effCall, ivAV, ivAVs, avOf, acOf, A1.cells, C.flat, List.lookup, Fx.Holds, AS.behindRegion, AS.apps, thenA, inBlockA, InI64, splice, tab3, tab4, tab9, tab22, tab24, tab25, tab69, eq_true hs0, eq_true hs1]
        repeat (refine ⟨by first | assumption | omega, ?_⟩)
        refine hK1 _ ⟨?_, ?_, ?_⟩ <;> simp [AS.get, AS.obj, List.lookup, dd, List.filter_cons, List.filter_nil, tab3, tab4, tab9, tab22, tab24, tab25, tab69, dequal, eq_true hs0, eq_true hs1]
        all_goals first | omega | (simp_all <;> omega)
      · refine awp_region' ([]) ?_
        simp [fxs, fxOf, dstOK, guardA, runOp, calleeOf, effOp, effBin, AS.ev, AS.get, AS.obj, AS.app, AS.ups, AS.put, AS.behind, AS.rowsOf, AS.resC, AS.resCs, resCs_map, AS.resIV, AS.resArgs, AS.evParts, fillA, AS.fillRows, effCall, ivAV, ivAVs, avOf, acOf, A1.cells, C.flat, List.lookup, Fx.Holds, AS.behindRegion, AS.apps, thenA, inBlockA, InI64, splice, tab3, tab4, tab9, tab22, tab24, tab25, tab69, eq_true hs0, eq_false hs1]
        repeat (refine ⟨by first | assumption | omega, ?_⟩)
        refine hK1 _ ⟨?_, ?_, ?_⟩ <;> simp [AS.get, AS.obj, List.lookup, dd, List.filter_cons, List.filter_nil, tab3, tab4, tab9, tab22, tab24, tab25, tab69, dequal, eq_true hs0, eq_false hs1]
        all_goals first | omega | (simp_all <;> omega)
    · refine awp_region' ([]) ?_
      simp [fxs, fxOf, dstOK, guardA, runOp, calleeOf, effOp, effBin, AS.ev, AS.get, AS.obj, AS.app, AS.ups, AS.put, AS.behind, AS.rowsOf, AS.resC, AS.resCs, resCs_map, AS.resIV, AS.resArgs, AS.evParts, fillA, AS.fillRows, effCall, ivAV, ivAVs, avOf, acOf, A1.cells, C.flat, List.lookup, Fx.Holds, AS.behindRegion, AS.apps, thenA, inBlockA, InI64, splice, tab3, tab4, tab9, tab22, tab24, tab25, tab69, eq_false hs0]
      repeat (refine ⟨by first | assumption | omega, ?_⟩)
      refine hK1 _ ⟨?_, ?_, ?_⟩ <;> simp [AS.get, AS.obj, List.lookup, dd, List.filter_cons, List.filter_nil, tab3, tab4, tab9, tab22, tab24, tab25, tab69, dequal, eq_false hs0]
      all_goals first | omega | (simp_all <;> omega)
  intro s1 hs1
  simp [AS.cut, AS.get, AS.obj, List.lookup, dd, List.filter_cons, List.filter_nil, tab3, tab4, tab9, tab22, tab24, tab25, tab69] at hs1
  subst hs1
  refine awp_ret ?_
  try simp only [thenA, inBlockA]
  rw [← hQ]
  refine ⟨by first | exact .inl rfl | exact .inr rfl, ?_⟩
  simp [AS.result, AS.resVars, AS.resVar, AS.ivOf, AS.ivsOf, AS.resC, AS.resCs, resCs_map, C.flat, AS.get, AS.obj, AS.ups, AS.put, List.lookup, res50, tab3, tab4, tab9, tab22, tab24, tab25, tab69]
end Go.Proofs.Yteaglcbnkephgaa

namespace Go.Proofs.Yteaglcbnkephgaa
open Go Go.RowKit

def dwords : List ByteArray := [⟨#[115, 111, 114, 116]⟩, ⟨#[118, 97, 114]⟩, ⟨#[112, 105]⟩, ⟨#[108, 97, 109]⟩, ⟨#[97, 112, 112]⟩, ⟨#[115, 105, 103]⟩, ⟨#[112, 97, 105, 114]⟩, ⟨#[102, 115, 116]⟩, ⟨#[115, 110, 100]⟩, ⟨#[101, 113]⟩, ⟨#[114, 101, 102, 108]⟩, ⟨#[99, 111, 110, 118]⟩, ⟨#[115, 97, 109, 101]⟩, ⟨#[115, 121, 109]⟩, ⟨#[116, 114, 97, 110, 115]⟩, ⟨#[99, 111, 110, 118, 115]⟩, ⟨#[114, 101, 102, 108, 101, 99, 116]⟩, ⟨#[98, 101, 116, 97]⟩, ⟨#[102, 105, 114, 115, 116]⟩, ⟨#[115, 101, 99, 111, 110, 100]⟩, ⟨#[101, 116, 97]⟩, ⟨#[115, 117, 114, 106]⟩, ⟨#[114, 101, 112, 108]⟩, ⟨#[105, 114, 114]⟩, ⟨#[120, 112, 105]⟩, ⟨#[120, 115, 105, 103]⟩, ⟨#[120, 108, 97, 109]⟩, ⟨#[120, 112, 97, 105, 114]⟩]
theorem dwords_length : dwords.length = 28 := rfl
def wrows (l : List ByteArray) : List (List C) := l.map fun s => [C.str s]
theorem wrows_get {l : List ByteArray} {k : Nat} (h : k < l.length) : (wrows l)[k]?.getD [] = [C.str l[k]] := by simp [wrows, h]
theorem wrows_length (l : List ByteArray) : (wrows l).length = l.length := by simp [wrows]
def dword (r : Int) : ByteArray := if 1 ≤ r ∧ r ≤ 28 then dwords[(r - 1).toNat]?.getD ⟨#[]⟩ else ⟨#[]⟩
def wfind : List ByteArray → Int → ByteArray → Int
  | [], _, _ => 0
  | s :: ss, i, w => if (s.toList == w.toList) = true then i + 1 else wfind ss (i + 1) w
def drule (w : ByteArray) : Int := wfind dwords 0 w
theorem wfind_drop {l : List ByteArray} {k : Nat} (h : k < l.length) (i : Int) (w : ByteArray) : wfind (l.drop k) i w = if (l[k].toList == w.toList) = true then i + 1 else wfind (l.drop (k + 1)) (i + 1) w := by
  rw [List.drop_eq_getElem_cons h]; rfl
theorem dkids_out {r : Int} (h : r < 1 ∨ 28 < r) : dkids r = -1 := by
  unfold dkids
  rw [if_neg (by omega), if_neg (by omega), if_neg (by omega), if_neg (by omega), if_neg (by omega)]
theorem dkids_le (r : Int) : dkids r ≤ 4 := by
  unfold dkids
  repeat' split
  all_goals omega
theorem dword_out {r : Int} (h : r < 1 ∨ 28 < r) : dword r = ⟨#[]⟩ := by
  unfold dword
  rw [if_neg (by omega)]
theorem dword_in {r : Int} (h1 : 1 ≤ r) (h2 : r ≤ 28) : (wrows dwords)[r.toNat - 1]?.getD [] = [C.str (dword r)] := by
  have h : r.toNat - 1 < dwords.length := by rw [dwords_length]; omega
  rw [wrows_get h, dword, if_pos ⟨h1, h2⟩, show (r - 1).toNat = r.toNat - 1 by omega]
  simp [h]
theorem ktab (r : Int) (h1 : 1 ≤ r) (h2 : r ≤ 28) : ([[C.int 0], [C.int 0], [C.int 2], [C.int 2], [C.int 2], [C.int 2], [C.int 3], [C.int 1], [C.int 1], [C.int 2], [C.int 1], [C.int 2], [C.int 1], [C.int 1], [C.int 2], [C.int 2], [C.int 1], [C.int 2], [C.int 3], [C.int 3], [C.int 1], [C.int 1], [C.int 2], [C.int 2], [C.int 2], [C.int 2], [C.int 3], [C.int 4]] : List (List C))[r.toNat - 1]?.getD [] = [C.int (dkids r)] := by
  obtain ⟨n, hn, rfl⟩ : ∃ n : Nat, n < 28 ∧ r = n + 1 := ⟨(r - 1).toNat, by omega, by omega⟩
  have e : ((n : Int) + 1).toNat - 1 = n := by omega
  rw [e]
  have h3 : ∀ n : Nat, n < 28 → ([0, 0, 2, 2, 2, 2, 3, 1, 1, 2, 1, 2, 1, 1, 2, 2, 1, 2, 3, 3, 1, 1, 2, 2, 2, 2, 3, 4] : List Int)[n]?.getD 0 = dkids (n + 1) := by decide
  rw [← h3 n hn]
  have h4 : ([[C.int 0], [C.int 0], [C.int 2], [C.int 2], [C.int 2], [C.int 2], [C.int 3], [C.int 1], [C.int 1], [C.int 2], [C.int 1], [C.int 2], [C.int 1], [C.int 1], [C.int 2], [C.int 2], [C.int 1], [C.int 2], [C.int 3], [C.int 3], [C.int 1], [C.int 1], [C.int 2], [C.int 2], [C.int 2], [C.int 2], [C.int 3], [C.int 4]] : List (List C)) = ([0, 0, 2, 2, 2, 2, 3, 1, 1, 2, 1, 2, 1, 1, 2, 2, 1, 2, 3, 3, 1, 1, 2, 2, 2, 2, 3, 4] : List Int).map (fun n => [C.int n]) := rfl
  rw [h4, List.getElem?_map]
  rw [List.getElem?_eq_getElem (by simpa using hn)]
  rfl
theorem call48 : Callable Try.prog 48 := callable_of Try.func48 (by kernel_rfl) (by kernel_rfl)
theorem res48 : Try.f48.results.toList = [.tmp 4] := rfl
set_option maxHeartbeats 4000000 in
set_option maxRecDepth 100000 in
theorem dinner_c (r k : Int) : ACalls Try.prog 48 [.one (.int r), .one (.int k)] (.v (.one (.bool (dinner r k)))) true := by
  refine acalls_of_awp Try.func48 rfl call48 false (by rw [Try.ntmps48]; simp) fun w0 S => ?_
  rw [Try.ntmps48]
  generalize hQ : Done Try.prog false Try.f48.results.toList (.v (.one (.bool (dinner r k)))) true = Q
  simp only [start, startEnv, argAV, Nat.zero_add, Nat.reduceAdd]
  refine awp_seq_k fun K0 hK0 => ?_
  refine awp_region' ([]) ?_
  simp [fxs, fxOf, dstOK, guardA, runOp, calleeOf, effOp, effBin, AS.ev, AS.get, AS.obj, AS.app, AS.ups, AS.put, AS.behind, AS.rowsOf, AS.resC, AS.resCs, resCs_map, AS.resIV, AS.resArgs, AS.evParts, fillA, AS.fillRows, effCall, ivAV, ivAVs, avOf, acOf, A1.cells, C.flat, List.lookup, Fx.Holds, AS.behindRegion, AS.apps, thenA, inBlockA, InI64, splice, tab3, tab4, tab9, tab22, tab24, tab25, tab69]
  repeat (refine ⟨by first | assumption | omega, ?_⟩)
  apply hK0
  try clear hK0 K0
  refine awp_seq_k fun K1 hK1 => ?_
  refine awp_seq_k fun K2 hK2 => ?_
  refine awp_region' ([]) ?_
  simp [fxs, fxOf, dstOK, guardA, runOp, calleeOf, effOp, effBin, AS.ev, AS.get, AS.obj, AS.app, AS.ups, AS.put, AS.behind, AS.rowsOf, AS.resC, AS.resCs, resCs_map, AS.resIV, AS.resArgs, AS.evParts, fillA, AS.fillRows, effCall, ivAV, ivAVs, avOf, acOf, A1.cells, C.flat, List.lookup, Fx.Holds, AS.behindRegion, AS.apps, thenA, inBlockA, InI64, splice, tab3, tab4, tab9, tab22, tab24, tab25, tab69]
  repeat (refine ⟨by first | assumption | omega, ?_⟩)
  apply hK2
  try clear hK2 K2
  refine awp_block ?_
  refine awp_seq_k fun K3 hK3 => ?_
  refine awp_seq_k fun K4 hK4 => ?_
  refine awp_region' ([]) ?_
  simp [fxs, fxOf, dstOK, guardA, runOp, calleeOf, effOp, effBin, AS.ev, AS.get, AS.obj, AS.app, AS.ups, AS.put, AS.behind, AS.rowsOf, AS.resC, AS.resCs, resCs_map, AS.resIV, AS.resArgs, AS.evParts, fillA, AS.fillRows, effCall, ivAV, ivAVs, avOf, acOf, A1.cells, C.flat, List.lookup, Fx.Holds, AS.behindRegion, AS.apps, thenA, inBlockA, InI64, splice, tab3, tab4, tab9, tab22, tab24, tab25, tab69]
  repeat (refine ⟨by first | assumption | omega, ?_⟩)
  apply hK4
  try clear hK4 K4
  refine awp_cond rfl (fun hb1 => ?_) (fun hb1 => ?_)
  · try simp at hb1
    refine awp_skip ?_
    try simp only [thenA, inBlockA]
    apply hK3
    try clear hK3 K3
    refine awp_cond rfl (fun hb2 => ?_) (fun hb2 => ?_)
    · try simp at hb2
      refine awp_seq_k fun K5 hK5 => ?_
      refine awp_region' ([]) ?_
      simp [fxs, fxOf, dstOK, guardA, runOp, calleeOf, effOp, effBin, AS.ev, AS.get, AS.obj, AS.app, AS.ups, AS.put, AS.behind, AS.rowsOf, AS.resC, AS.resCs, resCs_map, AS.resIV, AS.resArgs, AS.evParts, fillA, AS.fillRows, effCall, ivAV, ivAVs, avOf, acOf, A1.cells, C.flat, List.lookup, Fx.Holds, AS.behindRegion, AS.apps, thenA, inBlockA, InI64, splice, tab3, tab4, tab9, tab22, tab24, tab25, tab69]
      repeat (refine ⟨by first | assumption | omega, ?_⟩)
      apply hK5
      try clear hK5 K5
      refine awp_ret ?_
      try simp only [thenA, inBlockA]
      rw [← hQ]
      refine ⟨by first | exact .inl rfl | exact .inr rfl, ?_⟩
      simp [AS.result, AS.resVars, AS.resVar, AS.ivOf, AS.ivsOf, AS.resC, AS.resCs, resCs_map, C.flat, AS.get, AS.obj, AS.ups, AS.put, List.lookup, res48, tab3, tab4, tab9, tab22, tab24, tab25, tab69, dinner, *]
    · exfalso; simp_all
  · try simp at hb1
    refine awp_seq_k fun K6 hK6 => ?_
    refine awp_region' ([]) ?_
    simp [fxs, fxOf, dstOK, guardA, runOp, calleeOf, effOp, effBin, AS.ev, AS.get, AS.obj, AS.app, AS.ups, AS.put, AS.behind, AS.rowsOf, AS.resC, AS.resCs, resCs_map, AS.resIV, AS.resArgs, AS.evParts, fillA, AS.fillRows, effCall, ivAV, ivAVs, avOf, acOf, A1.cells, C.flat, List.lookup, Fx.Holds, AS.behindRegion, AS.apps, thenA, inBlockA, InI64, splice, tab3, tab4, tab9, tab22, tab24, tab25, tab69]
    repeat (refine ⟨by first | assumption | omega, ?_⟩)
    apply hK6
    try clear hK6 K6
    refine awp_cond rfl (fun hb3 => ?_) (fun hb3 => ?_)
    · try simp at hb3
      refine awp_skip ?_
      try simp only [thenA, inBlockA]
      apply hK3
      try clear hK3 K3
      refine awp_cond rfl (fun hb4 => ?_) (fun hb4 => ?_)
      · try simp at hb4
        refine awp_seq_k fun K7 hK7 => ?_
        refine awp_region' ([]) ?_
        simp [fxs, fxOf, dstOK, guardA, runOp, calleeOf, effOp, effBin, AS.ev, AS.get, AS.obj, AS.app, AS.ups, AS.put, AS.behind, AS.rowsOf, AS.resC, AS.resCs, resCs_map, AS.resIV, AS.resArgs, AS.evParts, fillA, AS.fillRows, effCall, ivAV, ivAVs, avOf, acOf, A1.cells, C.flat, List.lookup, Fx.Holds, AS.behindRegion, AS.apps, thenA, inBlockA, InI64, splice, tab3, tab4, tab9, tab22, tab24, tab25, tab69]
        repeat (refine ⟨by first | assumption | omega, ?_⟩)
        apply hK7
        try clear hK7 K7
        refine awp_ret ?_
        try simp only [thenA, inBlockA]
        rw [← hQ]
        refine ⟨by first | exact .inl rfl | exact .inr rfl, ?_⟩
        simp [AS.result, AS.resVars, AS.resVar, AS.ivOf, AS.ivsOf, AS.resC, AS.resCs, resCs_map, C.flat, AS.get, AS.obj, AS.ups, AS.put, List.lookup, res48, tab3, tab4, tab9, tab22, tab24, tab25, tab69, dinner, *]
      · exfalso; simp_all
    · try simp at hb3
      refine awp_seq_k fun K8 hK8 => ?_
      refine awp_region' ([]) ?_
      simp [fxs, fxOf, dstOK, guardA, runOp, calleeOf, effOp, effBin, AS.ev, AS.get, AS.obj, AS.app, AS.ups, AS.put, AS.behind, AS.rowsOf, AS.resC, AS.resCs, resCs_map, AS.resIV, AS.resArgs, AS.evParts, fillA, AS.fillRows, effCall, ivAV, ivAVs, avOf, acOf, A1.cells, C.flat, List.lookup, Fx.Holds, AS.behindRegion, AS.apps, thenA, inBlockA, InI64, splice, tab3, tab4, tab9, tab22, tab24, tab25, tab69]
      repeat (refine ⟨by first | assumption | omega, ?_⟩)
      apply hK8
      try clear hK8 K8
      refine awp_cond rfl (fun hb5 => ?_) (fun hb5 => ?_)
      · try simp at hb5
        refine awp_skip ?_
        try simp only [thenA, inBlockA]
        apply hK3
        try clear hK3 K3
        refine awp_cond rfl (fun hb6 => ?_) (fun hb6 => ?_)
        · try simp at hb6
          refine awp_seq_k fun K9 hK9 => ?_
          refine awp_region' ([]) ?_
          simp [fxs, fxOf, dstOK, guardA, runOp, calleeOf, effOp, effBin, AS.ev, AS.get, AS.obj, AS.app, AS.ups, AS.put, AS.behind, AS.rowsOf, AS.resC, AS.resCs, resCs_map, AS.resIV, AS.resArgs, AS.evParts, fillA, AS.fillRows, effCall, ivAV, ivAVs, avOf, acOf, A1.cells, C.flat, List.lookup, Fx.Holds, AS.behindRegion, AS.apps, thenA, inBlockA, InI64, splice, tab3, tab4, tab9, tab22, tab24, tab25, tab69]
          repeat (refine ⟨by first | assumption | omega, ?_⟩)
          apply hK9
          try clear hK9 K9
          refine awp_ret ?_
          try simp only [thenA, inBlockA]
          rw [← hQ]
          refine ⟨by first | exact .inl rfl | exact .inr rfl, ?_⟩
          simp [AS.result, AS.resVars, AS.resVar, AS.ivOf, AS.ivsOf, AS.resC, AS.resCs, resCs_map, C.flat, AS.get, AS.obj, AS.ups, AS.put, List.lookup, res48, tab3, tab4, tab9, tab22, tab24, tab25, tab69, dinner, *]
        · exfalso; simp_all
      · try simp at hb5
        refine awp_seq_k fun K10 hK10 => ?_
        refine awp_region' ([]) ?_
        simp [fxs, fxOf, dstOK, guardA, runOp, calleeOf, effOp, effBin, AS.ev, AS.get, AS.obj, AS.app, AS.ups, AS.put, AS.behind, AS.rowsOf, AS.resC, AS.resCs, resCs_map, AS.resIV, AS.resArgs, AS.evParts, fillA, AS.fillRows, effCall, ivAV, ivAVs, avOf, acOf, A1.cells, C.flat, List.lookup, Fx.Holds, AS.behindRegion, AS.apps, thenA, inBlockA, InI64, splice, tab3, tab4, tab9, tab22, tab24, tab25, tab69]
        repeat (refine ⟨by first | assumption | omega, ?_⟩)
        apply hK10
        try clear hK10 K10
        refine awp_cond rfl (fun hb7 => ?_) (fun hb7 => ?_)
        · try simp at hb7
          refine awp_skip ?_
          try simp only [thenA, inBlockA]
          apply hK3
          try clear hK3 K3
          refine awp_cond rfl (fun hb8 => ?_) (fun hb8 => ?_)
          · try simp at hb8
            refine awp_seq_k fun K11 hK11 => ?_
            refine awp_region' ([]) ?_
            simp [fxs, fxOf, dstOK, guardA, runOp, calleeOf, effOp, effBin, AS.ev, AS.get, AS.obj, AS.app, AS.ups, AS.put, AS.behind, AS.rowsOf, AS.resC, AS.resCs, resCs_map, AS.resIV, AS.resArgs, AS.evParts, fillA, AS.fillRows, effCall, ivAV, ivAVs, avOf, acOf, A1.cells, C.flat, List.lookup, Fx.Holds, AS.behindRegion, AS.apps, thenA, inBlockA, InI64, splice, tab3, tab4, tab9, tab22, tab24, tab25, tab69]
            repeat (refine ⟨by first | assumption | omega, ?_⟩)
            apply hK11
            try clear hK11 K11
            refine awp_ret ?_
            try simp only [thenA, inBlockA]
            rw [← hQ]
            refine ⟨by first | exact .inl rfl | exact .inr rfl, ?_⟩
            simp [AS.result, AS.resVars, AS.resVar, AS.ivOf, AS.ivsOf, AS.resC, AS.resCs, resCs_map, C.flat, AS.get, AS.obj, AS.ups, AS.put, List.lookup, res48, tab3, tab4, tab9, tab22, tab24, tab25, tab69, dinner, *]
          · exfalso; simp_all
        · try simp at hb7
          refine awp_seq_k fun K12 hK12 => ?_
          refine awp_region' ([]) ?_
          simp [fxs, fxOf, dstOK, guardA, runOp, calleeOf, effOp, effBin, AS.ev, AS.get, AS.obj, AS.app, AS.ups, AS.put, AS.behind, AS.rowsOf, AS.resC, AS.resCs, resCs_map, AS.resIV, AS.resArgs, AS.evParts, fillA, AS.fillRows, effCall, ivAV, ivAVs, avOf, acOf, A1.cells, C.flat, List.lookup, Fx.Holds, AS.behindRegion, AS.apps, thenA, inBlockA, InI64, splice, tab3, tab4, tab9, tab22, tab24, tab25, tab69]
          repeat (refine ⟨by first | assumption | omega, ?_⟩)
          apply hK12
          try clear hK12 K12
          refine awp_cond rfl (fun hb9 => ?_) (fun hb9 => ?_)
          · try simp at hb9
            refine awp_skip ?_
            try simp only [thenA, inBlockA]
            apply hK3
            try clear hK3 K3
            refine awp_cond rfl (fun hb10 => ?_) (fun hb10 => ?_)
            · try simp at hb10
              refine awp_seq_k fun K13 hK13 => ?_
              refine awp_region' ([]) ?_
              simp [fxs, fxOf, dstOK, guardA, runOp, calleeOf, effOp, effBin, AS.ev, AS.get, AS.obj, AS.app, AS.ups, AS.put, AS.behind, AS.rowsOf, AS.resC, AS.resCs, resCs_map, AS.resIV, AS.resArgs, AS.evParts, fillA, AS.fillRows, effCall, ivAV, ivAVs, avOf, acOf, A1.cells, C.flat, List.lookup, Fx.Holds, AS.behindRegion, AS.apps, thenA, inBlockA, InI64, splice, tab3, tab4, tab9, tab22, tab24, tab25, tab69]
              repeat (refine ⟨by first | assumption | omega, ?_⟩)
              apply hK13
              try clear hK13 K13
              refine awp_ret ?_
              try simp only [thenA, inBlockA]
              rw [← hQ]
              refine ⟨by first | exact .inl rfl | exact .inr rfl, ?_⟩
              simp [AS.result, AS.resVars, AS.resVar, AS.ivOf, AS.ivsOf, AS.resC, AS.resCs, resCs_map, C.flat, AS.get, AS.obj, AS.ups, AS.put, List.lookup, res48, tab3, tab4, tab9, tab22, tab24, tab25, tab69, dinner, *]
            · exfalso; simp_all
          · try simp at hb9
            refine awp_seq_k fun K14 hK14 => ?_
            refine awp_region' ([]) ?_
            simp [fxs, fxOf, dstOK, guardA, runOp, calleeOf, effOp, effBin, AS.ev, AS.get, AS.obj, AS.app, AS.ups, AS.put, AS.behind, AS.rowsOf, AS.resC, AS.resCs, resCs_map, AS.resIV, AS.resArgs, AS.evParts, fillA, AS.fillRows, effCall, ivAV, ivAVs, avOf, acOf, A1.cells, C.flat, List.lookup, Fx.Holds, AS.behindRegion, AS.apps, thenA, inBlockA, InI64, splice, tab3, tab4, tab9, tab22, tab24, tab25, tab69]
            repeat (refine ⟨by first | assumption | omega, ?_⟩)
            apply hK14
            try clear hK14 K14
            refine awp_cond rfl (fun hb11 => ?_) (fun hb11 => ?_)
            · try simp at hb11
              refine awp_skip ?_
              try simp only [thenA, inBlockA]
              apply hK3
              try clear hK3 K3
              refine awp_cond rfl (fun hb12 => ?_) (fun hb12 => ?_)
              · try simp at hb12
                refine awp_seq_k fun K15 hK15 => ?_
                refine awp_region' ([]) ?_
                simp [fxs, fxOf, dstOK, guardA, runOp, calleeOf, effOp, effBin, AS.ev, AS.get, AS.obj, AS.app, AS.ups, AS.put, AS.behind, AS.rowsOf, AS.resC, AS.resCs, resCs_map, AS.resIV, AS.resArgs, AS.evParts, fillA, AS.fillRows, effCall, ivAV, ivAVs, avOf, acOf, A1.cells, C.flat, List.lookup, Fx.Holds, AS.behindRegion, AS.apps, thenA, inBlockA, InI64, splice, tab3, tab4, tab9, tab22, tab24, tab25, tab69]
                repeat (refine ⟨by first | assumption | omega, ?_⟩)
                apply hK15
                try clear hK15 K15
                refine awp_ret ?_
                try simp only [thenA, inBlockA]
                rw [← hQ]
                refine ⟨by first | exact .inl rfl | exact .inr rfl, ?_⟩
                simp [AS.result, AS.resVars, AS.resVar, AS.ivOf, AS.ivsOf, AS.resC, AS.resCs, resCs_map, C.flat, AS.get, AS.obj, AS.ups, AS.put, List.lookup, res48, tab3, tab4, tab9, tab22, tab24, tab25, tab69, dinner, *]
              · exfalso; simp_all
            · try simp at hb11
              refine awp_seq_k fun K16 hK16 => ?_
              refine awp_region' ([]) ?_
              simp [fxs, fxOf, dstOK, guardA, runOp, calleeOf, effOp, effBin, AS.ev, AS.get, AS.obj, AS.app, AS.ups, AS.put, AS.behind, AS.rowsOf, AS.resC, AS.resCs, resCs_map, AS.resIV, AS.resArgs, AS.evParts, fillA, AS.fillRows, effCall, ivAV, ivAVs, avOf, acOf, A1.cells, C.flat, List.lookup, Fx.Holds, AS.behindRegion, AS.apps, thenA, inBlockA, InI64, splice, tab3, tab4, tab9, tab22, tab24, tab25, tab69]
              repeat (refine ⟨by first | assumption | omega, ?_⟩)
              apply hK16
              try clear hK16 K16
              refine awp_cond rfl (fun hb13 => ?_) (fun hb13 => ?_)
              · try simp at hb13
                refine awp_skip ?_
                try simp only [thenA, inBlockA]
                apply hK3
                try clear hK3 K3
                refine awp_cond rfl (fun hb14 => ?_) (fun hb14 => ?_)
                · try simp at hb14
                  refine awp_seq_k fun K17 hK17 => ?_
                  refine awp_region' ([]) ?_
                  simp [fxs, fxOf, dstOK, guardA, runOp, calleeOf, effOp, effBin, AS.ev, AS.get, AS.obj, AS.app, AS.ups, AS.put, AS.behind, AS.rowsOf, AS.resC, AS.resCs, resCs_map, AS.resIV, AS.resArgs, AS.evParts, fillA, AS.fillRows, effCall, ivAV, ivAVs, avOf, acOf, A1.cells, C.flat, List.lookup, Fx.Holds, AS.behindRegion, AS.apps, thenA, inBlockA, InI64, splice, tab3, tab4, tab9, tab22, tab24, tab25, tab69]
                  repeat (refine ⟨by first | assumption | omega, ?_⟩)
                  apply hK17
                  try clear hK17 K17
                  refine awp_ret ?_
                  try simp only [thenA, inBlockA]
                  rw [← hQ]
                  refine ⟨by first | exact .inl rfl | exact .inr rfl, ?_⟩
                  simp [AS.result, AS.resVars, AS.resVar, AS.ivOf, AS.ivsOf, AS.resC, AS.resCs, resCs_map, C.flat, AS.get, AS.obj, AS.ups, AS.put, List.lookup, res48, tab3, tab4, tab9, tab22, tab24, tab25, tab69, dinner, *]
                · exfalso; simp_all
              · try simp at hb13
                refine awp_seq_k fun K18 hK18 => ?_
                refine awp_region' ([]) ?_
                simp [fxs, fxOf, dstOK, guardA, runOp, calleeOf, effOp, effBin, AS.ev, AS.get, AS.obj, AS.app, AS.ups, AS.put, AS.behind, AS.rowsOf, AS.resC, AS.resCs, resCs_map, AS.resIV, AS.resArgs, AS.evParts, fillA, AS.fillRows, effCall, ivAV, ivAVs, avOf, acOf, A1.cells, C.flat, List.lookup, Fx.Holds, AS.behindRegion, AS.apps, thenA, inBlockA, InI64, splice, tab3, tab4, tab9, tab22, tab24, tab25, tab69]
                repeat (refine ⟨by first | assumption | omega, ?_⟩)
                apply hK18
                try clear hK18 K18
                refine awp_cond rfl (fun hb15 => ?_) (fun hb15 => ?_)
                · try simp at hb15
                  refine awp_skip ?_
                  try simp only [thenA, inBlockA]
                  apply hK3
                  try clear hK3 K3
                  refine awp_cond rfl (fun hb16 => ?_) (fun hb16 => ?_)
                  · try simp at hb16
                    refine awp_seq_k fun K19 hK19 => ?_
                    refine awp_region' ([]) ?_
                    simp [fxs, fxOf, dstOK, guardA, runOp, calleeOf, effOp, effBin, AS.ev, AS.get, AS.obj, AS.app, AS.ups, AS.put, AS.behind, AS.rowsOf, AS.resC, AS.resCs, resCs_map, AS.resIV, AS.resArgs, AS.evParts, fillA, AS.fillRows, effCall, ivAV, ivAVs, avOf, acOf, A1.cells, C.flat, List.lookup, Fx.Holds, AS.behindRegion, AS.apps, thenA, inBlockA, InI64, splice, tab3, tab4, tab9, tab22, tab24, tab25, tab69]
                    repeat (refine ⟨by first | assumption | omega, ?_⟩)
                    apply hK19
                    try clear hK19 K19
                    refine awp_ret ?_
                    try simp only [thenA, inBlockA]
                    rw [← hQ]
                    refine ⟨by first | exact .inl rfl | exact .inr rfl, ?_⟩
                    simp [AS.result, AS.resVars, AS.resVar, AS.ivOf, AS.ivsOf, AS.resC, AS.resCs, resCs_map, C.flat, AS.get, AS.obj, AS.ups, AS.put, List.lookup, res48, tab3, tab4, tab9, tab22, tab24, tab25, tab69, dinner, *]
                  · exfalso; simp_all
                · try simp at hb15
                  refine awp_seq_k fun K20 hK20 => ?_
                  refine awp_region' ([]) ?_
                  simp [fxs, fxOf, dstOK, guardA, runOp, calleeOf, effOp, effBin, AS.ev, AS.get, AS.obj, AS.app, AS.ups, AS.put, AS.behind, AS.rowsOf, AS.resC, AS.resCs, resCs_map, AS.resIV, AS.resArgs, AS.evParts, fillA, AS.fillRows, effCall, ivAV, ivAVs, avOf, acOf, A1.cells, C.flat, List.lookup, Fx.Holds, AS.behindRegion, AS.apps, thenA, inBlockA, InI64, splice, tab3, tab4, tab9, tab22, tab24, tab25, tab69]
                  repeat (refine ⟨by first | assumption | omega, ?_⟩)
                  apply hK20
                  try clear hK20 K20
                  refine awp_cond rfl (fun hb17 => ?_) (fun hb17 => ?_)
                  · try simp at hb17
                    refine awp_skip ?_
                    try simp only [thenA, inBlockA]
                    apply hK3
                    try clear hK3 K3
                    refine awp_cond rfl (fun hb18 => ?_) (fun hb18 => ?_)
                    · try simp at hb18
                      refine awp_seq_k fun K21 hK21 => ?_
                      refine awp_region' ([]) ?_
                      simp [fxs, fxOf, dstOK, guardA, runOp, calleeOf, effOp, effBin, AS.ev, AS.get, AS.obj, AS.app, AS.ups, AS.put, AS.behind, AS.rowsOf, AS.resC, AS.resCs, resCs_map, AS.resIV, AS.resArgs, AS.evParts, fillA, AS.fillRows, effCall, ivAV, ivAVs, avOf, acOf, A1.cells, C.flat, List.lookup, Fx.Holds, AS.behindRegion, AS.apps, thenA, inBlockA, InI64, splice, tab3, tab4, tab9, tab22, tab24, tab25, tab69]
                      repeat (refine ⟨by first | assumption | omega, ?_⟩)
                      apply hK21
                      try clear hK21 K21
                      refine awp_ret ?_
                      try simp only [thenA, inBlockA]
                      rw [← hQ]
                      refine ⟨by first | exact .inl rfl | exact .inr rfl, ?_⟩
                      simp [AS.result, AS.resVars, AS.resVar, AS.ivOf, AS.ivsOf, AS.resC, AS.resCs, resCs_map, C.flat, AS.get, AS.obj, AS.ups, AS.put, List.lookup, res48, tab3, tab4, tab9, tab22, tab24, tab25, tab69, dinner, *]
                    · exfalso; simp_all
                  · try simp at hb17
                    refine awp_seq_k fun K22 hK22 => ?_
                    refine awp_region' ([]) ?_
                    simp [fxs, fxOf, dstOK, guardA, runOp, calleeOf, effOp, effBin, AS.ev, AS.get, AS.obj, AS.app, AS.ups, AS.put, AS.behind, AS.rowsOf, AS.resC, AS.resCs, resCs_map, AS.resIV, AS.resArgs, AS.evParts, fillA, AS.fillRows, effCall, ivAV, ivAVs, avOf, acOf, A1.cells, C.flat, List.lookup, Fx.Holds, AS.behindRegion, AS.apps, thenA, inBlockA, InI64, splice, tab3, tab4, tab9, tab22, tab24, tab25, tab69]
                    repeat (refine ⟨by first | assumption | omega, ?_⟩)
                    apply hK22
                    try clear hK22 K22
                    refine awp_cond rfl (fun hb19 => ?_) (fun hb19 => ?_)
                    · try simp at hb19
                      refine awp_skip ?_
                      try simp only [thenA, inBlockA]
                      apply hK3
                      try clear hK3 K3
                      refine awp_cond rfl (fun hb20 => ?_) (fun hb20 => ?_)
                      · try simp at hb20
                        refine awp_seq_k fun K23 hK23 => ?_
                        refine awp_region' ([]) ?_
                        simp [fxs, fxOf, dstOK, guardA, runOp, calleeOf, effOp, effBin, AS.ev, AS.get, AS.obj, AS.app, AS.ups, AS.put, AS.behind, AS.rowsOf, AS.resC, AS.resCs, resCs_map, AS.resIV, AS.resArgs, AS.evParts, fillA, AS.fillRows, effCall, ivAV, ivAVs, avOf, acOf, A1.cells, C.flat, List.lookup, Fx.Holds, AS.behindRegion, AS.apps, thenA, inBlockA, InI64, splice, tab3, tab4, tab9, tab22, tab24, tab25, tab69]
                        repeat (refine ⟨by first | assumption | omega, ?_⟩)
                        apply hK23
                        try clear hK23 K23
                        refine awp_ret ?_
                        try simp only [thenA, inBlockA]
                        rw [← hQ]
                        refine ⟨by first | exact .inl rfl | exact .inr rfl, ?_⟩
                        simp [AS.result, AS.resVars, AS.resVar, AS.ivOf, AS.ivsOf, AS.resC, AS.resCs, resCs_map, C.flat, AS.get, AS.obj, AS.ups, AS.put, List.lookup, res48, tab3, tab4, tab9, tab22, tab24, tab25, tab69, dinner, *]
                      · exfalso; simp_all
                    · try simp at hb19
                      refine awp_region' ([]) ?_
                      simp [fxs, fxOf, dstOK, guardA, runOp, calleeOf, effOp, effBin, AS.ev, AS.get, AS.obj, AS.app, AS.ups, AS.put, AS.behind, AS.rowsOf, AS.resC, AS.resCs, resCs_map, AS.resIV, AS.resArgs, AS.evParts, fillA, AS.fillRows, effCall, ivAV, ivAVs, avOf, acOf, A1.cells, C.flat, List.lookup, Fx.Holds, AS.behindRegion, AS.apps, thenA, inBlockA, InI64, splice, tab3, tab4, tab9, tab22, tab24, tab25, tab69]
                      repeat (refine ⟨by first | assumption | omega, ?_⟩)
                      apply hK3
                      try clear hK3 K3
                      refine awp_cond rfl (fun hb21 => ?_) (fun hb21 => ?_)
                      · try simp at hb21
                        refine awp_seq_k fun K24 hK24 => ?_
                        refine awp_region' ([]) ?_
                        simp [fxs, fxOf, dstOK, guardA, runOp, calleeOf, effOp, effBin, AS.ev, AS.get, AS.obj, AS.app, AS.ups, AS.put, AS.behind, AS.rowsOf, AS.resC, AS.resCs, resCs_map, AS.resIV, AS.resArgs, AS.evParts, fillA, AS.fillRows, effCall, ivAV, ivAVs, avOf, acOf, A1.cells, C.flat, List.lookup, Fx.Holds, AS.behindRegion, AS.apps, thenA, inBlockA, InI64, splice, tab3, tab4, tab9, tab22, tab24, tab25, tab69]
                        repeat (refine ⟨by first | assumption | omega, ?_⟩)
                        apply hK24
                        try clear hK24 K24
                        refine awp_ret ?_
                        try simp only [thenA, inBlockA]
                        rw [← hQ]
                        refine ⟨by first | exact .inl rfl | exact .inr rfl, ?_⟩
                        simp [AS.result, AS.resVars, AS.resVar, AS.ivOf, AS.ivsOf, AS.resC, AS.resCs, resCs_map, C.flat, AS.get, AS.obj, AS.ups, AS.put, List.lookup, res48, tab3, tab4, tab9, tab22, tab24, tab25, tab69, dinner, *]
                      · try simp at hb21
                        refine awp_seq_k fun K25 hK25 => ?_
                        refine awp_region' ([]) ?_
                        simp [fxs, fxOf, dstOK, guardA, runOp, calleeOf, effOp, effBin, AS.ev, AS.get, AS.obj, AS.app, AS.ups, AS.put, AS.behind, AS.rowsOf, AS.resC, AS.resCs, resCs_map, AS.resIV, AS.resArgs, AS.evParts, fillA, AS.fillRows, effCall, ivAV, ivAVs, avOf, acOf, A1.cells, C.flat, List.lookup, Fx.Holds, AS.behindRegion, AS.apps, thenA, inBlockA, InI64, splice, tab3, tab4, tab9, tab22, tab24, tab25, tab69]
                        repeat (refine ⟨by first | assumption | omega, ?_⟩)
                        apply hK25
                        try clear hK25 K25
                        refine awp_cond rfl (fun hb22 => ?_) (fun hb22 => ?_)
                        · try simp at hb22
                          refine awp_cut [] ([(4, bv (decide (k = 1) || decide (k = 2)))]) ([]) ?_ ?_ ?_
                          · simp [wfs, AV.wf, A1.wf, AC.wf, Ob.wf, Below', iv, bv, tab3, tab4, tab9, tab22, tab24, tab25, tab69]
                          · intro K26 hK26
                            by_cases hs0 : k = 1
                            · refine awp_region' ([]) ?_
                              simp [fxs, fxOf, dstOK, guardA, runOp, calleeOf, effOp, effBin, AS.ev, AS.get, AS.obj, AS.app, AS.ups, AS.put, AS.behind, AS.rowsOf, AS.resC, AS.resCs, resCs_map, AS.resIV, AS.resArgs, AS.evParts, fillA, AS.fillRows, effCall, ivAV, ivAVs, avOf, acOf, A1.cells, C.flat, List.lookup, Fx.Holds, AS.behindRegion, AS.apps, thenA, inBlockA, InI64, splice, tab3, tab4, tab9, tab22, tab24, tab25, tab69, eq_true hs0]
                              repeat (refine ⟨by first | assumption | omega, ?_⟩)
                              refine hK26 _ ⟨?_, ?_, ?_⟩ <;> simp [AS.get, AS.obj, List.lookup, dd, List.filter_cons, List.filter_nil, tab3, tab4, tab9, tab22, tab24, tab25, tab69, eq_true hs0]
                              all_goals first | omega | (simp_all <;> omega)
                            · refine awp_region' ([]) ?_
                              simp [fxs, fxOf, dstOK, guardA, runOp, calleeOf, effOp, effBin, AS.ev, AS.get, AS.obj, AS.app, AS.ups, AS.put, AS.behind, AS.rowsOf, AS.resC, AS.resCs, resCs_map, AS.resIV, AS.resArgs, AS.evParts, fillA, AS.fillRows, effCall, ivAV, ivAVs, avOf, acOf, A1.cells, C.flat, List.lookup, Fx.Holds, AS.behindRegion, AS.apps, thenA, inBlockA, InI64, splice, tab3, tab4, tab9, tab22, tab24, tab25, tab69, eq_false hs0]
                              repeat (refine ⟨by first | assumption | omega, ?_⟩)
                              refine hK26 _ ⟨?_, ?_, ?_⟩ <;> simp [AS.get, AS.obj, List.lookup, dd, List.filter_cons, List.filter_nil, tab3, tab4, tab9, tab22, tab24, tab25, tab69, eq_false hs0]
                              all_goals first | omega | (simp_all <;> omega)
                          intro s26 hs26
                          simp [AS.cut, AS.get, AS.obj, List.lookup, dd, List.filter_cons, List.filter_nil, tab3, tab4, tab9, tab22, tab24, tab25, tab69] at hs26
                          subst hs26
                          refine awp_ret ?_
                          try simp only [thenA, inBlockA]
                          rw [← hQ]
                          refine ⟨by first | exact .inl rfl | exact .inr rfl, ?_⟩
                          simp [AS.result, AS.resVars, AS.resVar, AS.ivOf, AS.ivsOf, AS.resC, AS.resCs, resCs_map, C.flat, AS.get, AS.obj, AS.ups, AS.put, List.lookup, res48, tab3, tab4, tab9, tab22, tab24, tab25, tab69, dinner, *]
                        · try simp at hb22
                          refine awp_skip ?_
                          try simp only [thenA, inBlockA]
                          apply hK1
                          try clear hK1 K1
                          refine awp_seq_k fun K27 hK27 => ?_
                          refine awp_region' ([]) ?_
                          simp [fxs, fxOf, dstOK, guardA, runOp, calleeOf, effOp, effBin, AS.ev, AS.get, AS.obj, AS.app, AS.ups, AS.put, AS.behind, AS.rowsOf, AS.resC, AS.resCs, resCs_map, AS.resIV, AS.resArgs, AS.evParts, fillA, AS.fillRows, effCall, ivAV, ivAVs, avOf, acOf, A1.cells, C.flat, List.lookup, Fx.Holds, AS.behindRegion, AS.apps, thenA, inBlockA, InI64, splice, tab3, tab4, tab9, tab22, tab24, tab25, tab69]
                          repeat (refine ⟨by first | assumption | omega, ?_⟩)
                          apply hK27
                          try clear hK27 K27
                          refine awp_ret ?_
                          try simp only [thenA, inBlockA]
                          rw [← hQ]
                          refine ⟨by first | exact .inl rfl | exact .inr rfl, ?_⟩
                          simp [AS.result, AS.resVars, AS.resVar, AS.ivOf, AS.ivsOf, AS.resC, AS.resCs, resCs_map, C.flat, AS.get, AS.obj, AS.ups, AS.put, List.lookup, res48, tab3, tab4, tab9, tab22, tab24, tab25, tab69, dinner, *]
theorem call49 : Callable Try.prog 49 := callable_of Try.func49 (by kernel_rfl) (by kernel_rfl)
theorem res49 : Try.f49.results.toList = [.tmp 4] := rfl
set_option maxHeartbeats 4000000 in
set_option maxRecDepth 100000 in
theorem dinner_r (r k : Int) : ACalls Try.prog 49 [.one (.int r), .one (.int k)] (.v (.one (.bool (dinner r k)))) true := by
  refine acalls_of_awp Try.func49 rfl call49 false (by rw [Try.ntmps49]; simp) fun w0 S => ?_
  rw [Try.ntmps49]
  generalize hQ : Done Try.prog false Try.f49.results.toList (.v (.one (.bool (dinner r k)))) true = Q
  simp only [start, startEnv, argAV, Nat.zero_add, Nat.reduceAdd]
  refine awp_seq_k fun K0 hK0 => ?_
  refine awp_region' ([]) ?_
  simp [fxs, fxOf, dstOK, guardA, runOp, calleeOf, effOp, effBin, AS.ev, AS.get, AS.obj, AS.app, AS.ups, AS.put, AS.behind, AS.rowsOf, AS.resC, AS.resCs, resCs_map, AS.resIV, AS.resArgs, AS.evParts, fillA, AS.fillRows, effCall, ivAV, ivAVs, avOf, acOf, A1.cells, C.flat, List.lookup, Fx.Holds, AS.behindRegion, AS.apps, thenA, inBlockA, InI64, splice, tab3, tab4, tab9, tab22, tab24, tab25, tab69]
  repeat (refine ⟨by first | assumption | omega, ?_⟩)
  apply hK0
  try clear hK0 K0
  refine awp_seq_k fun K1 hK1 => ?_
  refine awp_seq_k fun K2 hK2 => ?_
  refine awp_region' ([]) ?_
  simp [fxs, fxOf, dstOK, guardA, runOp, calleeOf, effOp, effBin, AS.ev, AS.get, AS.obj, AS.app, AS.ups, AS.put, AS.behind, AS.rowsOf, AS.resC, AS.resCs, resCs_map, AS.resIV, AS.resArgs, AS.evParts, fillA, AS.fillRows, effCall, ivAV, ivAVs, avOf, acOf, A1.cells, C.flat, List.lookup, Fx.Holds, AS.behindRegion, AS.apps, thenA, inBlockA, InI64, splice, tab3, tab4, tab9, tab22, tab24, tab25, tab69]
  repeat (refine ⟨by first | assumption | omega, ?_⟩)
  apply hK2
  try clear hK2 K2
  refine awp_block ?_
  refine awp_seq_k fun K3 hK3 => ?_
  refine awp_seq_k fun K4 hK4 => ?_
  refine awp_region' ([]) ?_
  simp [fxs, fxOf, dstOK, guardA, runOp, calleeOf, effOp, effBin, AS.ev, AS.get, AS.obj, AS.app, AS.ups, AS.put, AS.behind, AS.rowsOf, AS.resC, AS.resCs, resCs_map, AS.resIV, AS.resArgs, AS.evParts, fillA, AS.fillRows, effCall, ivAV, ivAVs, avOf, acOf, A1.cells, C.flat, List.lookup, Fx.Holds, AS.behindRegion, AS.apps, thenA, inBlockA, InI64, splice, tab3, tab4, tab9, tab22, tab24, tab25, tab69]
  repeat (refine ⟨by first | assumption | omega, ?_⟩)
  apply hK4
  try clear hK4 K4
  refine awp_cond rfl (fun hb1 => ?_) (fun hb1 => ?_)
  · try simp at hb1
    refine awp_skip ?_
    try simp only [thenA, inBlockA]
    apply hK3
    try clear hK3 K3
    refine awp_cond rfl (fun hb2 => ?_) (fun hb2 => ?_)
    · try simp at hb2
      refine awp_seq_k fun K5 hK5 => ?_
      refine awp_region' ([]) ?_
      simp [fxs, fxOf, dstOK, guardA, runOp, calleeOf, effOp, effBin, AS.ev, AS.get, AS.obj, AS.app, AS.ups, AS.put, AS.behind, AS.rowsOf, AS.resC, AS.resCs, resCs_map, AS.resIV, AS.resArgs, AS.evParts, fillA, AS.fillRows, effCall, ivAV, ivAVs, avOf, acOf, A1.cells, C.flat, List.lookup, Fx.Holds, AS.behindRegion, AS.apps, thenA, inBlockA, InI64, splice, tab3, tab4, tab9, tab22, tab24, tab25, tab69]
      repeat (refine ⟨by first | assumption | omega, ?_⟩)
      apply hK5
      try clear hK5 K5
      refine awp_ret ?_
      try simp only [thenA, inBlockA]
      rw [← hQ]
      refine ⟨by first | exact .inl rfl | exact .inr rfl, ?_⟩
      simp [AS.result, AS.resVars, AS.resVar, AS.ivOf, AS.ivsOf, AS.resC, AS.resCs, resCs_map, C.flat, AS.get, AS.obj, AS.ups, AS.put, List.lookup, res49, tab3, tab4, tab9, tab22, tab24, tab25, tab69, dinner, *]
    · exfalso; simp_all
  · try simp at hb1
    refine awp_seq_k fun K6 hK6 => ?_
    refine awp_region' ([]) ?_
    simp [fxs, fxOf, dstOK, guardA, runOp, calleeOf, effOp, effBin, AS.ev, AS.get, AS.obj, AS.app, AS.ups, AS.put, AS.behind, AS.rowsOf, AS.resC, AS.resCs, resCs_map, AS.resIV, AS.resArgs, AS.evParts, fillA, AS.fillRows, effCall, ivAV, ivAVs, avOf, acOf, A1.cells, C.flat, List.lookup, Fx.Holds, AS.behindRegion, AS.apps, thenA, inBlockA, InI64, splice, tab3, tab4, tab9, tab22, tab24, tab25, tab69]
    repeat (refine ⟨by first | assumption | omega, ?_⟩)
    apply hK6
    try clear hK6 K6
    refine awp_cond rfl (fun hb3 => ?_) (fun hb3 => ?_)
    · try simp at hb3
      refine awp_skip ?_
      try simp only [thenA, inBlockA]
      apply hK3
      try clear hK3 K3
      refine awp_cond rfl (fun hb4 => ?_) (fun hb4 => ?_)
      · try simp at hb4
        refine awp_seq_k fun K7 hK7 => ?_
        refine awp_region' ([]) ?_
        simp [fxs, fxOf, dstOK, guardA, runOp, calleeOf, effOp, effBin, AS.ev, AS.get, AS.obj, AS.app, AS.ups, AS.put, AS.behind, AS.rowsOf, AS.resC, AS.resCs, resCs_map, AS.resIV, AS.resArgs, AS.evParts, fillA, AS.fillRows, effCall, ivAV, ivAVs, avOf, acOf, A1.cells, C.flat, List.lookup, Fx.Holds, AS.behindRegion, AS.apps, thenA, inBlockA, InI64, splice, tab3, tab4, tab9, tab22, tab24, tab25, tab69]
        repeat (refine ⟨by first | assumption | omega, ?_⟩)
        apply hK7
        try clear hK7 K7
        refine awp_ret ?_
        try simp only [thenA, inBlockA]
        rw [← hQ]
        refine ⟨by first | exact .inl rfl | exact .inr rfl, ?_⟩
        simp [AS.result, AS.resVars, AS.resVar, AS.ivOf, AS.ivsOf, AS.resC, AS.resCs, resCs_map, C.flat, AS.get, AS.obj, AS.ups, AS.put, List.lookup, res49, tab3, tab4, tab9, tab22, tab24, tab25, tab69, dinner, *]
      · exfalso; simp_all
    · try simp at hb3
      refine awp_seq_k fun K8 hK8 => ?_
      refine awp_region' ([]) ?_
      simp [fxs, fxOf, dstOK, guardA, runOp, calleeOf, effOp, effBin, AS.ev, AS.get, AS.obj, AS.app, AS.ups, AS.put, AS.behind, AS.rowsOf, AS.resC, AS.resCs, resCs_map, AS.resIV, AS.resArgs, AS.evParts, fillA, AS.fillRows, effCall, ivAV, ivAVs, avOf, acOf, A1.cells, C.flat, List.lookup, Fx.Holds, AS.behindRegion, AS.apps, thenA, inBlockA, InI64, splice, tab3, tab4, tab9, tab22, tab24, tab25, tab69]
      repeat (refine ⟨by first | assumption | omega, ?_⟩)
      apply hK8
      try clear hK8 K8
      refine awp_cond rfl (fun hb5 => ?_) (fun hb5 => ?_)
      · try simp at hb5
        refine awp_skip ?_
        try simp only [thenA, inBlockA]
        apply hK3
        try clear hK3 K3
        refine awp_cond rfl (fun hb6 => ?_) (fun hb6 => ?_)
        · try simp at hb6
          refine awp_seq_k fun K9 hK9 => ?_
          refine awp_region' ([]) ?_
          simp [fxs, fxOf, dstOK, guardA, runOp, calleeOf, effOp, effBin, AS.ev, AS.get, AS.obj, AS.app, AS.ups, AS.put, AS.behind, AS.rowsOf, AS.resC, AS.resCs, resCs_map, AS.resIV, AS.resArgs, AS.evParts, fillA, AS.fillRows, effCall, ivAV, ivAVs, avOf, acOf, A1.cells, C.flat, List.lookup, Fx.Holds, AS.behindRegion, AS.apps, thenA, inBlockA, InI64, splice, tab3, tab4, tab9, tab22, tab24, tab25, tab69]
          repeat (refine ⟨by first | assumption | omega, ?_⟩)
          apply hK9
          try clear hK9 K9
          refine awp_ret ?_
          try simp only [thenA, inBlockA]
          rw [← hQ]
          refine ⟨by first | exact .inl rfl | exact .inr rfl, ?_⟩
          simp [AS.result, AS.resVars, AS.resVar, AS.ivOf, AS.ivsOf, AS.resC, AS.resCs, resCs_map, C.flat, AS.get, AS.obj, AS.ups, AS.put, List.lookup, res49, tab3, tab4, tab9, tab22, tab24, tab25, tab69, dinner, *]
        · exfalso; simp_all
      · try simp at hb5
        refine awp_seq_k fun K10 hK10 => ?_
        refine awp_region' ([]) ?_
        simp [fxs, fxOf, dstOK, guardA, runOp, calleeOf, effOp, effBin, AS.ev, AS.get, AS.obj, AS.app, AS.ups, AS.put, AS.behind, AS.rowsOf, AS.resC, AS.resCs, resCs_map, AS.resIV, AS.resArgs, AS.evParts, fillA, AS.fillRows, effCall, ivAV, ivAVs, avOf, acOf, A1.cells, C.flat, List.lookup, Fx.Holds, AS.behindRegion, AS.apps, thenA, inBlockA, InI64, splice, tab3, tab4, tab9, tab22, tab24, tab25, tab69]
        repeat (refine ⟨by first | assumption | omega, ?_⟩)
        apply hK10
        try clear hK10 K10
        refine awp_cond rfl (fun hb7 => ?_) (fun hb7 => ?_)
        · try simp at hb7
          refine awp_skip ?_
          try simp only [thenA, inBlockA]
          apply hK3
          try clear hK3 K3
          refine awp_cond rfl (fun hb8 => ?_) (fun hb8 => ?_)
          · try simp at hb8
            refine awp_seq_k fun K11 hK11 => ?_
            refine awp_region' ([]) ?_
            simp [fxs, fxOf, dstOK, guardA, runOp, calleeOf, effOp, effBin, AS.ev, AS.get, AS.obj, AS.app, AS.ups, AS.put, AS.behind, AS.rowsOf, AS.resC, AS.resCs, resCs_map, AS.resIV, AS.resArgs, AS.evParts, fillA, AS.fillRows, effCall, ivAV, ivAVs, avOf, acOf, A1.cells, C.flat, List.lookup, Fx.Holds, AS.behindRegion, AS.apps, thenA, inBlockA, InI64, splice, tab3, tab4, tab9, tab22, tab24, tab25, tab69]
            repeat (refine ⟨by first | assumption | omega, ?_⟩)
            apply hK11
            try clear hK11 K11
            refine awp_ret ?_
            try simp only [thenA, inBlockA]
            rw [← hQ]
            refine ⟨by first | exact .inl rfl | exact .inr rfl, ?_⟩
            simp [AS.result, AS.resVars, AS.resVar, AS.ivOf, AS.ivsOf, AS.resC, AS.resCs, resCs_map, C.flat, AS.get, AS.obj, AS.ups, AS.put, List.lookup, res49, tab3, tab4, tab9, tab22, tab24, tab25, tab69, dinner, *]
          · exfalso; simp_all
        · try simp at hb7
          refine awp_seq_k fun K12 hK12 => ?_
          refine awp_region' ([]) ?_
          simp [fxs, fxOf, dstOK, guardA, runOp, calleeOf, effOp, effBin, AS.ev, AS.get, AS.obj, AS.app, AS.ups, AS.put, AS.behind, AS.rowsOf, AS.resC, AS.resCs, resCs_map, AS.resIV, AS.resArgs, AS.evParts, fillA, AS.fillRows, effCall, ivAV, ivAVs, avOf, acOf, A1.cells, C.flat, List.lookup, Fx.Holds, AS.behindRegion, AS.apps, thenA, inBlockA, InI64, splice, tab3, tab4, tab9, tab22, tab24, tab25, tab69]
          repeat (refine ⟨by first | assumption | omega, ?_⟩)
          apply hK12
          try clear hK12 K12
          refine awp_cond rfl (fun hb9 => ?_) (fun hb9 => ?_)
          · try simp at hb9
            refine awp_skip ?_
            try simp only [thenA, inBlockA]
            apply hK3
            try clear hK3 K3
            refine awp_cond rfl (fun hb10 => ?_) (fun hb10 => ?_)
            · try simp at hb10
              refine awp_seq_k fun K13 hK13 => ?_
              refine awp_region' ([]) ?_
              simp [fxs, fxOf, dstOK, guardA, runOp, calleeOf, effOp, effBin, AS.ev, AS.get, AS.obj, AS.app, AS.ups, AS.put, AS.behind, AS.rowsOf, AS.resC, AS.resCs, resCs_map, AS.resIV, AS.resArgs, AS.evParts, fillA, AS.fillRows, effCall, ivAV, ivAVs, avOf, acOf, A1.cells, C.flat, List.lookup, Fx.Holds, AS.behindRegion, AS.apps, thenA, inBlockA, InI64, splice, tab3, tab4, tab9, tab22, tab24, tab25, tab69]
              repeat (refine ⟨by first | assumption | omega, ?_⟩)
              apply hK13
              try clear hK13 K13
              refine awp_ret ?_
              try simp only [thenA, inBlockA]
              rw [← hQ]
              refine ⟨by first | exact .inl rfl | exact .inr rfl, ?_⟩
              simp [AS.result, AS.resVars, AS.resVar, AS.ivOf, AS.ivsOf, AS.resC, AS.resCs, resCs_map, C.flat, AS.get, AS.obj, AS.ups, AS.put, List.lookup, res49, tab3, tab4, tab9, tab22, tab24, tab25, tab69, dinner, *]
            · exfalso; simp_all
          · try simp at hb9
            refine awp_seq_k fun K14 hK14 => ?_
            refine awp_region' ([]) ?_
            simp [fxs, fxOf, dstOK, guardA, runOp, calleeOf, effOp, effBin, AS.ev, AS.get, AS.obj, AS.app, AS.ups, AS.put, AS.behind, AS.rowsOf, AS.resC, AS.resCs, resCs_map, AS.resIV, AS.resArgs, AS.evParts, fillA, AS.fillRows, effCall, ivAV, ivAVs, avOf, acOf, A1.cells, C.flat, List.lookup, Fx.Holds, AS.behindRegion, AS.apps, thenA, inBlockA, InI64, splice, tab3, tab4, tab9, tab22, tab24, tab25, tab69]
            repeat (refine ⟨by first | assumption | omega, ?_⟩)
            apply hK14
            try clear hK14 K14
            refine awp_cond rfl (fun hb11 => ?_) (fun hb11 => ?_)
            · try simp at hb11
              refine awp_skip ?_
              try simp only [thenA, inBlockA]
              apply hK3
              try clear hK3 K3
              refine awp_cond rfl (fun hb12 => ?_) (fun hb12 => ?_)
              · try simp at hb12
                refine awp_seq_k fun K15 hK15 => ?_
                refine awp_region' ([]) ?_
                simp [fxs, fxOf, dstOK, guardA, runOp, calleeOf, effOp, effBin, AS.ev, AS.get, AS.obj, AS.app, AS.ups, AS.put, AS.behind, AS.rowsOf, AS.resC, AS.resCs, resCs_map, AS.resIV, AS.resArgs, AS.evParts, fillA, AS.fillRows, effCall, ivAV, ivAVs, avOf, acOf, A1.cells, C.flat, List.lookup, Fx.Holds, AS.behindRegion, AS.apps, thenA, inBlockA, InI64, splice, tab3, tab4, tab9, tab22, tab24, tab25, tab69]
                repeat (refine ⟨by first | assumption | omega, ?_⟩)
                apply hK15
                try clear hK15 K15
                refine awp_ret ?_
                try simp only [thenA, inBlockA]
                rw [← hQ]
                refine ⟨by first | exact .inl rfl | exact .inr rfl, ?_⟩
                simp [AS.result, AS.resVars, AS.resVar, AS.ivOf, AS.ivsOf, AS.resC, AS.resCs, resCs_map, C.flat, AS.get, AS.obj, AS.ups, AS.put, List.lookup, res49, tab3, tab4, tab9, tab22, tab24, tab25, tab69, dinner, *]
              · exfalso; simp_all
            · try simp at hb11
              refine awp_seq_k fun K16 hK16 => ?_
              refine awp_region' ([]) ?_
              simp [fxs, fxOf, dstOK, guardA, runOp, calleeOf, effOp, effBin, AS.ev, AS.get, AS.obj, AS.app, AS.ups, AS.put, AS.behind, AS.rowsOf, AS.resC, AS.resCs, resCs_map, AS.resIV, AS.resArgs, AS.evParts, fillA, AS.fillRows, effCall, ivAV, ivAVs, avOf, acOf, A1.cells, C.flat, List.lookup, Fx.Holds, AS.behindRegion, AS.apps, thenA, inBlockA, InI64, splice, tab3, tab4, tab9, tab22, tab24, tab25, tab69]
              repeat (refine ⟨by first | assumption | omega, ?_⟩)
              apply hK16
              try clear hK16 K16
              refine awp_cond rfl (fun hb13 => ?_) (fun hb13 => ?_)
              · try simp at hb13
                refine awp_skip ?_
                try simp only [thenA, inBlockA]
                apply hK3
                try clear hK3 K3
                refine awp_cond rfl (fun hb14 => ?_) (fun hb14 => ?_)
                · try simp at hb14
                  refine awp_seq_k fun K17 hK17 => ?_
                  refine awp_region' ([]) ?_
                  simp [fxs, fxOf, dstOK, guardA, runOp, calleeOf, effOp, effBin, AS.ev, AS.get, AS.obj, AS.app, AS.ups, AS.put, AS.behind, AS.rowsOf, AS.resC, AS.resCs, resCs_map, AS.resIV, AS.resArgs, AS.evParts, fillA, AS.fillRows, effCall, ivAV, ivAVs, avOf, acOf, A1.cells, C.flat, List.lookup, Fx.Holds, AS.behindRegion, AS.apps, thenA, inBlockA, InI64, splice, tab3, tab4, tab9, tab22, tab24, tab25, tab69]
                  repeat (refine ⟨by first | assumption | omega, ?_⟩)
                  apply hK17
                  try clear hK17 K17
                  refine awp_ret ?_
                  try simp only [thenA, inBlockA]
                  rw [← hQ]
                  refine ⟨by first | exact .inl rfl | exact .inr rfl, ?_⟩
                  simp [AS.result, AS.resVars, AS.resVar, AS.ivOf, AS.ivsOf, AS.resC, AS.resCs, resCs_map, C.flat, AS.get, AS.obj, AS.ups, AS.put, List.lookup, res49, tab3, tab4, tab9, tab22, tab24, tab25, tab69, dinner, *]
                · exfalso; simp_all
              · try simp at hb13
                refine awp_seq_k fun K18 hK18 => ?_
                refine awp_region' ([]) ?_
                simp [fxs, fxOf, dstOK, guardA, runOp, calleeOf, effOp, effBin, AS.ev, AS.get, AS.obj, AS.app, AS.ups, AS.put, AS.behind, AS.rowsOf, AS.resC, AS.resCs, resCs_map, AS.resIV, AS.resArgs, AS.evParts, fillA, AS.fillRows, effCall, ivAV, ivAVs, avOf, acOf, A1.cells, C.flat, List.lookup, Fx.Holds, AS.behindRegion, AS.apps, thenA, inBlockA, InI64, splice, tab3, tab4, tab9, tab22, tab24, tab25, tab69]
                repeat (refine ⟨by first | assumption | omega, ?_⟩)
                apply hK18
                try clear hK18 K18
                refine awp_cond rfl (fun hb15 => ?_) (fun hb15 => ?_)
                · try simp at hb15
                  refine awp_skip ?_
                  try simp only [thenA, inBlockA]
                  apply hK3
                  try clear hK3 K3
                  refine awp_cond rfl (fun hb16 => ?_) (fun hb16 => ?_)
                  · try simp at hb16
                    refine awp_seq_k fun K19 hK19 => ?_
                    refine awp_region' ([]) ?_
                    simp [fxs, fxOf, dstOK, guardA, runOp, calleeOf, effOp, effBin, AS.ev, AS.get, AS.obj, AS.app, AS.ups, AS.put, AS.behind, AS.rowsOf, AS.resC, AS.resCs, resCs_map, AS.resIV, AS.resArgs, AS.evParts, fillA, AS.fillRows, effCall, ivAV, ivAVs, avOf, acOf, A1.cells, C.flat, List.lookup, Fx.Holds, AS.behindRegion, AS.apps, thenA, inBlockA, InI64, splice, tab3, tab4, tab9, tab22, tab24, tab25, tab69]
                    repeat (refine ⟨by first | assumption | omega, ?_⟩)
                    apply hK19
                    try clear hK19 K19
                    refine awp_ret ?_
                    try simp only [thenA, inBlockA]
                    rw [← hQ]
                    refine ⟨by first | exact .inl rfl | exact .inr rfl, ?_⟩
                    simp [AS.result, AS.resVars, AS.resVar, AS.ivOf, AS.ivsOf, AS.resC, AS.resCs, resCs_map, C.flat, AS.get, AS.obj, AS.ups, AS.put, List.lookup, res49, tab3, tab4, tab9, tab22, tab24, tab25, tab69, dinner, *]
                  · exfalso; simp_all
                · try simp at hb15
                  refine awp_seq_k fun K20 hK20 => ?_
                  refine awp_region' ([]) ?_
                  simp [fxs, fxOf, dstOK, guardA, runOp, calleeOf, effOp, effBin, AS.ev, AS.get, AS.obj, AS.app, AS.ups, AS.put, AS.behind, AS.rowsOf, AS.resC, AS.resCs, resCs_map, AS.resIV, AS.resArgs, AS.evParts, fillA, AS.fillRows, effCall, ivAV, ivAVs, avOf, acOf, A1.cells, C.flat, List.lookup, Fx.Holds, AS.behindRegion, AS.apps, thenA, inBlockA, InI64, splice, tab3, tab4, tab9, tab22, tab24, tab25, tab69]
                  repeat (refine ⟨by first | assumption | omega, ?_⟩)
                  apply hK20
                  try clear hK20 K20
                  refine awp_cond rfl (fun hb17 => ?_) (fun hb17 => ?_)
                  · try simp at hb17
                    refine awp_skip ?_
                    try simp only [thenA, inBlockA]
                    apply hK3
                    try clear hK3 K3
                    refine awp_cond rfl (fun hb18 => ?_) (fun hb18 => ?_)
                    · try simp at hb18
                      refine awp_seq_k fun K21 hK21 => ?_
                      refine awp_region' ([]) ?_
                      simp [fxs, fxOf, dstOK, guardA, runOp, calleeOf, effOp, effBin, AS.ev, AS.get, AS.obj, AS.app, AS.ups, AS.put, AS.behind, AS.rowsOf, AS.resC, AS.resCs, resCs_map, AS.resIV, AS.resArgs, AS.evParts, fillA, AS.fillRows, effCall, ivAV, ivAVs, avOf, acOf, A1.cells, C.flat, List.lookup, Fx.Holds, AS.behindRegion, AS.apps, thenA, inBlockA, InI64, splice, tab3, tab4, tab9, tab22, tab24, tab25, tab69]
                      repeat (refine ⟨by first | assumption | omega, ?_⟩)
                      apply hK21
                      try clear hK21 K21
                      refine awp_ret ?_
                      try simp only [thenA, inBlockA]
                      rw [← hQ]
                      refine ⟨by first | exact .inl rfl | exact .inr rfl, ?_⟩
                      simp [AS.result, AS.resVars, AS.resVar, AS.ivOf, AS.ivsOf, AS.resC, AS.resCs, resCs_map, C.flat, AS.get, AS.obj, AS.ups, AS.put, List.lookup, res49, tab3, tab4, tab9, tab22, tab24, tab25, tab69, dinner, *]
                    · exfalso; simp_all
                  · try simp at hb17
                    refine awp_seq_k fun K22 hK22 => ?_
                    refine awp_region' ([]) ?_
                    simp [fxs, fxOf, dstOK, guardA, runOp, calleeOf, effOp, effBin, AS.ev, AS.get, AS.obj, AS.app, AS.ups, AS.put, AS.behind, AS.rowsOf, AS.resC, AS.resCs, resCs_map, AS.resIV, AS.resArgs, AS.evParts, fillA, AS.fillRows, effCall, ivAV, ivAVs, avOf, acOf, A1.cells, C.flat, List.lookup, Fx.Holds, AS.behindRegion, AS.apps, thenA, inBlockA, InI64, splice, tab3, tab4, tab9, tab22, tab24, tab25, tab69]
                    repeat (refine ⟨by first | assumption | omega, ?_⟩)
                    apply hK22
                    try clear hK22 K22
                    refine awp_cond rfl (fun hb19 => ?_) (fun hb19 => ?_)
                    · try simp at hb19
                      refine awp_skip ?_
                      try simp only [thenA, inBlockA]
                      apply hK3
                      try clear hK3 K3
                      refine awp_cond rfl (fun hb20 => ?_) (fun hb20 => ?_)
                      · try simp at hb20
                        refine awp_seq_k fun K23 hK23 => ?_
                        refine awp_region' ([]) ?_
                        simp [fxs, fxOf, dstOK, guardA, runOp, calleeOf, effOp, effBin, AS.ev, AS.get, AS.obj, AS.app, AS.ups, AS.put, AS.behind, AS.rowsOf, AS.resC, AS.resCs, resCs_map, AS.resIV, AS.resArgs, AS.evParts, fillA, AS.fillRows, effCall, ivAV, ivAVs, avOf, acOf, A1.cells, C.flat, List.lookup, Fx.Holds, AS.behindRegion, AS.apps, thenA, inBlockA, InI64, splice, tab3, tab4, tab9, tab22, tab24, tab25, tab69]
                        repeat (refine ⟨by first | assumption | omega, ?_⟩)
                        apply hK23
                        try clear hK23 K23
                        refine awp_ret ?_
                        try simp only [thenA, inBlockA]
                        rw [← hQ]
                        refine ⟨by first | exact .inl rfl | exact .inr rfl, ?_⟩
                        simp [AS.result, AS.resVars, AS.resVar, AS.ivOf, AS.ivsOf, AS.resC, AS.resCs, resCs_map, C.flat, AS.get, AS.obj, AS.ups, AS.put, List.lookup, res49, tab3, tab4, tab9, tab22, tab24, tab25, tab69, dinner, *]
                      · exfalso; simp_all
                    · try simp at hb19
                      refine awp_region' ([]) ?_
                      simp [fxs, fxOf, dstOK, guardA, runOp, calleeOf, effOp, effBin, AS.ev, AS.get, AS.obj, AS.app, AS.ups, AS.put, AS.behind, AS.rowsOf, AS.resC, AS.resCs, resCs_map, AS.resIV, AS.resArgs, AS.evParts, fillA, AS.fillRows, effCall, ivAV, ivAVs, avOf, acOf, A1.cells, C.flat, List.lookup, Fx.Holds, AS.behindRegion, AS.apps, thenA, inBlockA, InI64, splice, tab3, tab4, tab9, tab22, tab24, tab25, tab69]
                      repeat (refine ⟨by first | assumption | omega, ?_⟩)
                      apply hK3
                      try clear hK3 K3
                      refine awp_cond rfl (fun hb21 => ?_) (fun hb21 => ?_)
                      · try simp at hb21
                        refine awp_seq_k fun K24 hK24 => ?_
                        refine awp_region' ([]) ?_
                        simp [fxs, fxOf, dstOK, guardA, runOp, calleeOf, effOp, effBin, AS.ev, AS.get, AS.obj, AS.app, AS.ups, AS.put, AS.behind, AS.rowsOf, AS.resC, AS.resCs, resCs_map, AS.resIV, AS.resArgs, AS.evParts, fillA, AS.fillRows, effCall, ivAV, ivAVs, avOf, acOf, A1.cells, C.flat, List.lookup, Fx.Holds, AS.behindRegion, AS.apps, thenA, inBlockA, InI64, splice, tab3, tab4, tab9, tab22, tab24, tab25, tab69]
                        repeat (refine ⟨by first | assumption | omega, ?_⟩)
                        apply hK24
                        try clear hK24 K24
                        refine awp_ret ?_
                        try simp only [thenA, inBlockA]
                        rw [← hQ]
                        refine ⟨by first | exact .inl rfl | exact .inr rfl, ?_⟩
                        simp [AS.result, AS.resVars, AS.resVar, AS.ivOf, AS.ivsOf, AS.resC, AS.resCs, resCs_map, C.flat, AS.get, AS.obj, AS.ups, AS.put, List.lookup, res49, tab3, tab4, tab9, tab22, tab24, tab25, tab69, dinner, *]
                      · try simp at hb21
                        refine awp_seq_k fun K25 hK25 => ?_
                        refine awp_region' ([]) ?_
                        simp [fxs, fxOf, dstOK, guardA, runOp, calleeOf, effOp, effBin, AS.ev, AS.get, AS.obj, AS.app, AS.ups, AS.put, AS.behind, AS.rowsOf, AS.resC, AS.resCs, resCs_map, AS.resIV, AS.resArgs, AS.evParts, fillA, AS.fillRows, effCall, ivAV, ivAVs, avOf, acOf, A1.cells, C.flat, List.lookup, Fx.Holds, AS.behindRegion, AS.apps, thenA, inBlockA, InI64, splice, tab3, tab4, tab9, tab22, tab24, tab25, tab69]
                        repeat (refine ⟨by first | assumption | omega, ?_⟩)
                        apply hK25
                        try clear hK25 K25
                        refine awp_cond rfl (fun hb22 => ?_) (fun hb22 => ?_)
                        · try simp at hb22
                          refine awp_cut [] ([(4, bv (decide (k = 1) || decide (k = 2)))]) ([]) ?_ ?_ ?_
                          · simp [wfs, AV.wf, A1.wf, AC.wf, Ob.wf, Below', iv, bv, tab3, tab4, tab9, tab22, tab24, tab25, tab69]
                          · intro K26 hK26
                            by_cases hs0 : k = 1
                            · refine awp_region' ([]) ?_
                              simp [fxs, fxOf, dstOK, guardA, runOp, calleeOf, effOp, effBin, AS.ev, AS.get, AS.obj, AS.app, AS.ups, AS.put, AS.behind, AS.rowsOf, AS.resC, AS.resCs, resCs_map, AS.resIV, AS.resArgs, AS.evParts, fillA, AS.fillRows, effCall, ivAV, ivAVs, avOf, acOf, A1.cells, C.flat, List.lookup, Fx.Holds, AS.behindRegion, AS.apps, thenA, inBlockA, InI64, splice, tab3, tab4, tab9, tab22, tab24, tab25, tab69, eq_true hs0]
                              repeat (refine ⟨by first | assumption | omega, ?_⟩)
                              refine hK26 _ ⟨?_, ?_, ?_⟩ <;> simp [AS.get, AS.obj, List.lookup, dd, List.filter_cons, List.filter_nil, tab3, tab4, tab9, tab22, tab24, tab25, tab69, eq_true hs0]
                              all_goals first | omega | (simp_all <;> omega)
                            · refine awp_region' ([]) ?_
                              simp [fxs, fxOf, dstOK, guardA, runOp, calleeOf, effOp, effBin, AS.ev, AS.get, AS.obj, AS.app, AS.ups, AS.put, AS.behind, AS.rowsOf, AS.resC, AS.resCs, resCs_map, AS.resIV, AS.resArgs, AS.evParts, fillA, AS.fillRows, effCall, ivAV, ivAVs, avOf, acOf, A1.cells, C.flat, List.lookup, Fx.Holds, AS.behindRegion, AS.apps, thenA, inBlockA, InI64, splice, tab3, tab4, tab9, tab22, tab24, tab25, tab69, eq_false hs0]
                              repeat (refine ⟨by first | assumption | omega, ?_⟩)
                              refine hK26 _ ⟨?_, ?_, ?_⟩ <;> simp [AS.get, AS.obj, List.lookup, dd, List.filter_cons, List.filter_nil, tab3, tab4, tab9, tab22, tab24, tab25, tab69, eq_false hs0]
                              all_goals first | omega | (simp_all <;> omega)
                          intro s26 hs26
                          simp [AS.cut, AS.get, AS.obj, List.lookup, dd, List.filter_cons, List.filter_nil, tab3, tab4, tab9, tab22, tab24, tab25, tab69] at hs26
                          subst hs26
                          refine awp_ret ?_
                          try simp only [thenA, inBlockA]
                          rw [← hQ]
                          refine ⟨by first | exact .inl rfl | exact .inr rfl, ?_⟩
                          simp [AS.result, AS.resVars, AS.resVar, AS.ivOf, AS.ivsOf, AS.resC, AS.resCs, resCs_map, C.flat, AS.get, AS.obj, AS.ups, AS.put, List.lookup, res49, tab3, tab4, tab9, tab22, tab24, tab25, tab69, dinner, *]
                        · try simp at hb22
                          refine awp_skip ?_
                          try simp only [thenA, inBlockA]
                          apply hK1
                          try clear hK1 K1
                          refine awp_seq_k fun K27 hK27 => ?_
                          refine awp_region' ([]) ?_
                          simp [fxs, fxOf, dstOK, guardA, runOp, calleeOf, effOp, effBin, AS.ev, AS.get, AS.obj, AS.app, AS.ups, AS.put, AS.behind, AS.rowsOf, AS.resC, AS.resCs, resCs_map, AS.resIV, AS.resArgs, AS.evParts, fillA, AS.fillRows, effCall, ivAV, ivAVs, avOf, acOf, A1.cells, C.flat, List.lookup, Fx.Holds, AS.behindRegion, AS.apps, thenA, inBlockA, InI64, splice, tab3, tab4, tab9, tab22, tab24, tab25, tab69]
                          repeat (refine ⟨by first | assumption | omega, ?_⟩)
                          apply hK27
                          try clear hK27 K27
                          refine awp_ret ?_
                          try simp only [thenA, inBlockA]
                          rw [← hQ]
                          refine ⟨by first | exact .inl rfl | exact .inr rfl, ?_⟩
                          simp [AS.result, AS.resVars, AS.resVar, AS.ivOf, AS.ivsOf, AS.resC, AS.resCs, resCs_map, C.flat, AS.get, AS.obj, AS.ups, AS.put, List.lookup, res49, tab3, tab4, tab9, tab22, tab24, tab25, tab69, dinner, *]
theorem call51 : Callable Try.prog 51 := callable_of Try.func51 (by kernel_rfl) (by kernel_rfl)
theorem res51 : Try.f51.results.toList = [.tmp 2] := rfl
set_option maxHeartbeats 4000000 in
set_option maxRecDepth 100000 in
theorem dequal_r (r : Int) : ACalls Try.prog 51 [.one (.int r)] (.v (.one (.bool (dequal r)))) true := by
  refine acalls_of_awp Try.func51 rfl call51 false (by rw [Try.ntmps51]; simp) fun w0 S => ?_
  rw [Try.ntmps51]
  generalize hQ : Done Try.prog false Try.f51.results.toList (.v (.one (.bool (dequal r)))) true = Q
  simp only [start, startEnv, argAV, Nat.zero_add, Nat.reduceAdd]
  refine awp_seq_k fun K0 hK0 => ?_
  refine awp_region' ([]) ?_
  simp [fxs, fxOf, dstOK, guardA, runOp, calleeOf, effOp, effBin, AS.ev, AS.get, AS.obj, AS.app, AS.ups, AS.put, AS.behind, AS.rowsOf, AS.resC, AS.resCs, resCs_map, AS.resIV, AS.resArgs, AS.evParts, fillA, AS.fillRows, effCall, ivAV, ivAVs, avOf, acOf, A1.cells, C.flat, List.lookup, Fx.Holds, AS.behindRegion, AS.apps, thenA, inBlockA, InI64, splice, tab3, tab4, tab9, tab22, tab24, tab25, tab69]
  repeat (refine ⟨by first | assumption | omega, ?_⟩)
  apply hK0
  try clear hK0 K0
  refine awp_cut [] ([(2, bv (dequal r))]) ([]) ?_ ?_ ?_
  · simp [wfs, AV.wf, A1.wf, AC.wf, Ob.wf, Below', iv, bv, tab3, tab4, tab9, tab22, tab24, tab25, tab69]
  · intro K1 hK1
    by_cases hs0 : 13 ≤ r
    · by_cases hs1 : r ≤ 28
      · refine awp_region' ([]) ?_
        simp [fxs, fxOf, dstOK, guardA, runOp, calleeOf, effOp, effBin, AS.ev, AS.get, AS.obj, AS.app, AS.ups, AS.put, AS.behind, AS.rowsOf, AS.resC, AS.resCs, resCs_map, AS.resIV, AS.resArgs, AS.evParts, fillA, AS.fillRows, effCall, ivAV, ivAVs, avOf, acOf, A1.cells, C.flat, List.lookup, Fx.Holds, AS.behindRegion, AS.apps, thenA, inBlockA, InI64, splice, tab3, tab4, tab9, tab22, tab24, tab25, tab69, eq_true hs0, eq_true hs1]
        repeat (refine ⟨by first | assumption | omega, ?_⟩)
        refine hK1 _ ⟨?_, ?_, ?_⟩ <;> simp [AS.get, AS.obj, List.lookup, dd, List.filter_cons, List.filter_nil, tab3, tab4, tab9, tab22, tab24, tab25, tab69, dequal, eq_true hs0, eq_true hs1]
        all_goals first | omega | (simp_all <;> omega)
      · refine awp_region' ([]) ?_
        simp [fxs, fxOf, dstOK, guardA, runOp, calleeOf, effOp, effBin, AS.ev, AS.get, AS.obj, AS.app, AS.ups, AS.put, AS.behind, AS.rowsOf, AS.resC, AS.resCs, resCs_map, AS.resIV, AS.resArgs, AS.evParts, fillA, AS.fillRows, effCall, ivAV, ivAVs, avOf, acOf, A1.cells, C.flat, List.lookup, Fx.Holds, AS.behindRegion, AS.apps, thenA, inBlockA, InI64, splice, tab3, tab4, tab9, tab22, tab24, tab25, tab69, eq_true hs0, eq_false hs1]
        repeat (refine ⟨by first | assumption | omega, ?_⟩)
        refine hK1 _ ⟨?_, ?_, ?_⟩ <;> simp [AS.get, AS.obj, List.lookup, dd, List.filter_cons, List.filter_nil, tab3, tab4, tab9, tab22, tab24, tab25, tab69, dequal, eq_true hs0, eq_false hs1]
        all_goals first | omega | (simp_all <;> omega)
    · refine awp_region' ([]) ?_
      simp [fxs, fxOf, dstOK, guardA, runOp, calleeOf, effOp, effBin, AS.ev, AS.get, AS.obj, AS.app, AS.ups, AS.put, AS.behind, AS.rowsOf, AS.resC, AS.resCs, resCs_map, AS.resIV, AS.resArgs, AS.evParts, fillA, AS.fillRows, effCall, ivAV, ivAVs, avOf, acOf, A1.cells, C.flat, List.lookup, Fx.Holds, AS.behindRegion, AS.apps, thenA, inBlockA, InI64, splice, tab3, tab4, tab9, tab22, tab24, tab25, tab69, eq_false hs0]
      repeat (refine ⟨by first | assumption | omega, ?_⟩)
      refine hK1 _ ⟨?_, ?_, ?_⟩ <;> simp [AS.get, AS.obj, List.lookup, dd, List.filter_cons, List.filter_nil, tab3, tab4, tab9, tab22, tab24, tab25, tab69, dequal, eq_false hs0]
      all_goals first | omega | (simp_all <;> omega)
  intro s1 hs1
  simp [AS.cut, AS.get, AS.obj, List.lookup, dd, List.filter_cons, List.filter_nil, tab3, tab4, tab9, tab22, tab24, tab25, tab69] at hs1
  subst hs1
  refine awp_ret ?_
  try simp only [thenA, inBlockA]
  rw [← hQ]
  refine ⟨by first | exact .inl rfl | exact .inr rfl, ?_⟩
  simp [AS.result, AS.resVars, AS.resVar, AS.ivOf, AS.ivsOf, AS.resC, AS.resCs, resCs_map, C.flat, AS.get, AS.obj, AS.ups, AS.put, List.lookup, res51, tab3, tab4, tab9, tab22, tab24, tab25, tab69]
theorem call47 : Callable Try.prog 47 := callable_of Try.func47 (by kernel_rfl) (by kernel_rfl)
theorem res47 : Try.f47.results.toList = [.tmp 2] := rfl
set_option maxHeartbeats 4000000 in
set_option maxRecDepth 100000 in
theorem dkids_r (r : Int) : ACalls Try.prog 47 [.one (.int r)] (.v (.one (.int (dkids r)))) true := by
  refine acalls_of_awp Try.func47 rfl call47 false (by rw [Try.ntmps47]; simp) fun w0 S => ?_
  rw [Try.ntmps47]
  generalize hQ : Done Try.prog false Try.f47.results.toList (.v (.one (.int (dkids r)))) true = Q
  simp only [start, startEnv, argAV, Nat.zero_add, Nat.reduceAdd]
  refine awp_seq_k fun K0 hK0 => ?_
  refine awp_region' ([]) ?_
  simp [fxs, fxOf, dstOK, guardA, runOp, calleeOf, effOp, effBin, AS.ev, AS.get, AS.obj, AS.app, AS.ups, AS.put, AS.behind, AS.rowsOf, AS.resC, AS.resCs, resCs_map, AS.resIV, AS.resArgs, AS.evParts, fillA, AS.fillRows, effCall, ivAV, ivAVs, avOf, acOf, A1.cells, C.flat, List.lookup, Fx.Holds, AS.behindRegion, AS.apps, thenA, inBlockA, InI64, splice, tab3, tab4, tab9, tab22, tab24, tab25, tab69]
  repeat (refine ⟨by first | assumption | omega, ?_⟩)
  apply hK0
  try clear hK0 K0
  refine awp_seq_k fun K1 hK1 => ?_
  refine awp_region' ([]) ?_
  simp [fxs, fxOf, dstOK, guardA, runOp, calleeOf, effOp, effBin, AS.ev, AS.get, AS.obj, AS.app, AS.ups, AS.put, AS.behind, AS.rowsOf, AS.resC, AS.resCs, resCs_map, AS.resIV, AS.resArgs, AS.evParts, fillA, AS.fillRows, effCall, ivAV, ivAVs, avOf, acOf, A1.cells, C.flat, List.lookup, Fx.Holds, AS.behindRegion, AS.apps, thenA, inBlockA, InI64, splice, tab3, tab4, tab9, tab22, tab24, tab25, tab69]
  repeat (refine ⟨by first | assumption | omega, ?_⟩)
  apply hK1
  try clear hK1 K1
  refine awp_seq_k fun K2 hK2 => ?_
  refine awp_cut [0, 3] ([(12, bv (decide (r < 1) || decide (28 < r)))]) ([]) ?_ ?_ ?_
  · simp [wfs, AV.wf, A1.wf, AC.wf, Ob.wf, Below', iv, bv, tab3, tab4, tab9, tab22, tab24, tab25, tab69]
  · intro K3 hK3
    by_cases hs0 : r < 1
    · refine awp_region' ([]) ?_
      simp [fxs, fxOf, dstOK, guardA, runOp, calleeOf, effOp, effBin, AS.ev, AS.get, AS.obj, AS.app, AS.ups, AS.put, AS.behind, AS.rowsOf, AS.resC, AS.resCs, resCs_map, AS.resIV, AS.resArgs, AS.evParts, fillA, AS.fillRows, effCall, ivAV, ivAVs, avOf, acOf, A1.cells, C.flat, List.lookup, Fx.Holds, AS.behindRegion, AS.apps, thenA, inBlockA, InI64, splice, tab3, tab4, tab9, tab22, tab24, tab25, tab69, eq_true hs0]
      repeat (refine ⟨by first | assumption | omega, ?_⟩)
      refine hK3 _ ⟨?_, ?_, ?_⟩ <;> simp [AS.get, AS.obj, List.lookup, dd, List.filter_cons, List.filter_nil, tab3, tab4, tab9, tab22, tab24, tab25, tab69, eq_true hs0]
      all_goals first | omega | (simp_all <;> omega)
    · by_cases hs1 : 28 < r
      · refine awp_region' ([]) ?_
        simp [fxs, fxOf, dstOK, guardA, runOp, calleeOf, effOp, effBin, AS.ev, AS.get, AS.obj, AS.app, AS.ups, AS.put, AS.behind, AS.rowsOf, AS.resC, AS.resCs, resCs_map, AS.resIV, AS.resArgs, AS.evParts, fillA, AS.fillRows, effCall, ivAV, ivAVs, avOf, acOf, A1.cells, C.flat, List.lookup, Fx.Holds, AS.behindRegion, AS.apps, thenA, inBlockA, InI64, splice, tab3, tab4, tab9, tab22, tab24, tab25, tab69, eq_false hs0, eq_true hs1]
        repeat (refine ⟨by first | assumption | omega, ?_⟩)
        refine hK3 _ ⟨?_, ?_, ?_⟩ <;> simp [AS.get, AS.obj, List.lookup, dd, List.filter_cons, List.filter_nil, tab3, tab4, tab9, tab22, tab24, tab25, tab69, eq_false hs0, eq_true hs1]
        all_goals first | omega | (simp_all <;> omega)
      · refine awp_region' ([]) ?_
        simp [fxs, fxOf, dstOK, guardA, runOp, calleeOf, effOp, effBin, AS.ev, AS.get, AS.obj, AS.app, AS.ups, AS.put, AS.behind, AS.rowsOf, AS.resC, AS.resCs, resCs_map, AS.resIV, AS.resArgs, AS.evParts, fillA, AS.fillRows, effCall, ivAV, ivAVs, avOf, acOf, A1.cells, C.flat, List.lookup, Fx.Holds, AS.behindRegion, AS.apps, thenA, inBlockA, InI64, splice, tab3, tab4, tab9, tab22, tab24, tab25, tab69, eq_false hs0, eq_false hs1]
        repeat (refine ⟨by first | assumption | omega, ?_⟩)
        refine hK3 _ ⟨?_, ?_, ?_⟩ <;> simp [AS.get, AS.obj, List.lookup, dd, List.filter_cons, List.filter_nil, tab3, tab4, tab9, tab22, tab24, tab25, tab69, eq_false hs0, eq_false hs1]
        all_goals first | omega | (simp_all <;> omega)
  intro s3 hs3
  simp [AS.cut, AS.get, AS.obj, List.lookup, dd, List.filter_cons, List.filter_nil, tab3, tab4, tab9, tab22, tab24, tab25, tab69] at hs3
  subst hs3
  refine awp_cond rfl (fun hb_t12 => ?_) (fun hb_t12 => ?_)
  · try simp at hb_t12
    have hd := dkids_out hb_t12
    refine awp_seq_k fun K4 hK4 => ?_
    refine awp_region' ([]) ?_
    simp [fxs, fxOf, dstOK, guardA, runOp, calleeOf, effOp, effBin, AS.ev, AS.get, AS.obj, AS.app, AS.ups, AS.put, AS.behind, AS.rowsOf, AS.resC, AS.resCs, resCs_map, AS.resIV, AS.resArgs, AS.evParts, fillA, AS.fillRows, effCall, ivAV, ivAVs, avOf, acOf, A1.cells, C.flat, List.lookup, Fx.Holds, AS.behindRegion, AS.apps, thenA, inBlockA, InI64, splice, tab3, tab4, tab9, tab22, tab24, tab25, tab69]
    repeat (refine ⟨by first | assumption | omega, ?_⟩)
    apply hK4
    try clear hK4 K4
    refine awp_ret ?_
    try simp only [thenA, inBlockA]
    rw [← hQ]
    refine ⟨by first | exact .inl rfl | exact .inr rfl, ?_⟩
    simp [AS.result, AS.resVars, AS.resVar, AS.ivOf, AS.ivsOf, AS.resC, AS.resCs, resCs_map, C.flat, AS.get, AS.obj, AS.ups, AS.put, List.lookup, res47, tab3, tab4, tab9, tab22, tab24, tab25, tab69, hd]
  · try simp at hb_t12
    obtain ⟨h1, h2⟩ := hb_t12
    have hd := ktab r h1 h2
    refine awp_skip ?_
    try simp only [thenA, inBlockA]
    apply hK2
    try clear hK2 K2
    refine awp_seq_k fun K5 hK5 => ?_
    refine awp_region' ([]) ?_
    simp [fxs, fxOf, dstOK, guardA, runOp, calleeOf, effOp, effBin, AS.ev, AS.get, AS.obj, AS.app, AS.ups, AS.put, AS.behind, AS.rowsOf, AS.resC, AS.resCs, resCs_map, AS.resIV, AS.resArgs, AS.evParts, fillA, AS.fillRows, effCall, ivAV, ivAVs, avOf, acOf, A1.cells, C.flat, List.lookup, Fx.Holds, AS.behindRegion, AS.apps, thenA, inBlockA, InI64, splice, tab3, tab4, tab9, tab22, tab24, tab25, tab69, hd]
    repeat (refine ⟨by first | assumption | omega, ?_⟩)
    apply hK5
    try clear hK5 K5
    refine awp_ret ?_
    try simp only [thenA, inBlockA]
    rw [← hQ]
    refine ⟨by first | exact .inl rfl | exact .inr rfl, ?_⟩
    simp [AS.result, AS.resVars, AS.resVar, AS.ivOf, AS.ivsOf, AS.resC, AS.resCs, resCs_map, C.flat, AS.get, AS.obj, AS.ups, AS.put, List.lookup, res47, tab3, tab4, tab9, tab22, tab24, tab25, tab69, hd]
theorem call107 : Callable Try.prog 107 := callable_of Try.func107 (by kernel_rfl) (by kernel_rfl)
theorem res107 : Try.f107.results.toList = [.tmp 2] := rfl
set_option maxHeartbeats 4000000 in
set_option maxRecDepth 100000 in
theorem dnumbered (r : Int) : ACalls Try.prog 107 [.one (.int r)] (.v (.one (.bool (decide (r = 1) || decide (r = 2))))) true := by
  refine acalls_of_awp Try.func107 rfl call107 false (by rw [Try.ntmps107]; simp) fun w0 S => ?_
  rw [Try.ntmps107]
  generalize hQ : Done Try.prog false Try.f107.results.toList (.v (.one (.bool (decide (r = 1) || decide (r = 2))))) true = Q
  simp only [start, startEnv, argAV, Nat.zero_add, Nat.reduceAdd]
  refine awp_seq_k fun K0 hK0 => ?_
  refine awp_region' ([]) ?_
  simp [fxs, fxOf, dstOK, guardA, runOp, calleeOf, effOp, effBin, AS.ev, AS.get, AS.obj, AS.app, AS.ups, AS.put, AS.behind, AS.rowsOf, AS.resC, AS.resCs, resCs_map, AS.resIV, AS.resArgs, AS.evParts, fillA, AS.fillRows, effCall, ivAV, ivAVs, avOf, acOf, A1.cells, C.flat, List.lookup, Fx.Holds, AS.behindRegion, AS.apps, thenA, inBlockA, InI64, splice, tab3, tab4, tab9, tab22, tab24, tab25, tab69]
  repeat (refine ⟨by first | assumption | omega, ?_⟩)
  apply hK0
  try clear hK0 K0
  refine awp_cut [] ([(2, bv (decide (r = 1) || decide (r = 2)))]) ([]) ?_ ?_ ?_
  · simp [wfs, AV.wf, A1.wf, AC.wf, Ob.wf, Below', iv, bv, tab3, tab4, tab9, tab22, tab24, tab25, tab69]
  · intro K1 hK1
    by_cases hs0 : r = 1
    · refine awp_region' ([]) ?_
      simp [fxs, fxOf, dstOK, guardA, runOp, calleeOf, effOp, effBin, AS.ev, AS.get, AS.obj, AS.app, AS.ups, AS.put, AS.behind, AS.rowsOf, AS.resC, AS.resCs, resCs_map, AS.resIV, AS.resArgs, AS.evParts, fillA, AS.fillRows, effCall, ivAV, ivAVs, avOf, acOf, A1.cells, C.flat, List.lookup, Fx.Holds, AS.behindRegion, AS.apps, thenA, inBlockA, InI64, splice, tab3, tab4, tab9, tab22, tab24, tab25, tab69, eq_true hs0]
      repeat (refine ⟨by first | assumption | omega, ?_⟩)
      refine hK1 _ ⟨?_, ?_, ?_⟩ <;> simp [AS.get, AS.obj, List.lookup, dd, List.filter_cons, List.filter_nil, tab3, tab4, tab9, tab22, tab24, tab25, tab69, eq_true hs0]
      all_goals first | omega | (simp_all <;> omega)
    · refine awp_region' ([]) ?_
      simp [fxs, fxOf, dstOK, guardA, runOp, calleeOf, effOp, effBin, AS.ev, AS.get, AS.obj, AS.app, AS.ups, AS.put, AS.behind, AS.rowsOf, AS.resC, AS.resCs, resCs_map, AS.resIV, AS.resArgs, AS.evParts, fillA, AS.fillRows, effCall, ivAV, ivAVs, avOf, acOf, A1.cells, C.flat, List.lookup, Fx.Holds, AS.behindRegion, AS.apps, thenA, inBlockA, InI64, splice, tab3, tab4, tab9, tab22, tab24, tab25, tab69, eq_false hs0]
      repeat (refine ⟨by first | assumption | omega, ?_⟩)
      refine hK1 _ ⟨?_, ?_, ?_⟩ <;> simp [AS.get, AS.obj, List.lookup, dd, List.filter_cons, List.filter_nil, tab3, tab4, tab9, tab22, tab24, tab25, tab69, eq_false hs0]
      all_goals first | omega | (simp_all <;> omega)
  intro s1 hs1
  simp [AS.cut, AS.get, AS.obj, List.lookup, dd, List.filter_cons, List.filter_nil, tab3, tab4, tab9, tab22, tab24, tab25, tab69] at hs1
  subst hs1
  refine awp_ret ?_
  try simp only [thenA, inBlockA]
  rw [← hQ]
  refine ⟨by first | exact .inl rfl | exact .inr rfl, ?_⟩
  simp [AS.result, AS.resVars, AS.resVar, AS.ivOf, AS.ivsOf, AS.resC, AS.resCs, resCs_map, C.flat, AS.get, AS.obj, AS.ups, AS.put, List.lookup, res107, tab3, tab4, tab9, tab22, tab24, tab25, tab69]
theorem call109 : Callable Try.prog 109 := callable_of Try.func109 (by kernel_rfl) (by kernel_rfl)
theorem res109 : Try.f109.results.toList = [.tmp 0] := rfl
set_option maxHeartbeats 4000000 in
set_option maxRecDepth 100000 in
theorem dwords_c  : ACalls Try.prog 109 [] (.v (.one (.slice (wrows dwords)))) true := by
  refine acalls_of_awp Try.func109 rfl call109 false (by rw [Try.ntmps109]; simp) fun w0 S => ?_
  rw [Try.ntmps109]
  generalize hQ : Done Try.prog false Try.f109.results.toList (.v (.one (.slice (wrows dwords)))) true = Q
  simp only [start, startEnv, argAV, Nat.zero_add, Nat.reduceAdd]
  refine awp_seq_k fun K0 hK0 => ?_
  refine awp_region' ([]) ?_
  simp [fxs, fxOf, dstOK, guardA, runOp, calleeOf, effOp, effBin, AS.ev, AS.get, AS.obj, AS.app, AS.ups, AS.put, AS.behind, AS.rowsOf, AS.resC, AS.resCs, resCs_map, AS.resIV, AS.resArgs, AS.evParts, fillA, AS.fillRows, effCall, ivAV, ivAVs, avOf, acOf, A1.cells, C.flat, List.lookup, Fx.Holds, AS.behindRegion, AS.apps, thenA, inBlockA, InI64, splice, tab3, tab4, tab9, tab22, tab24, tab25, tab69]
  repeat (refine ⟨by first | assumption | omega, ?_⟩)
  apply hK0
  try clear hK0 K0
  refine awp_seq_k fun K1 hK1 => ?_
  refine awp_region' ([]) ?_
  simp [fxs, fxOf, dstOK, guardA, runOp, calleeOf, effOp, effBin, AS.ev, AS.get, AS.obj, AS.app, AS.ups, AS.put, AS.behind, AS.rowsOf, AS.resC, AS.resCs, resCs_map, AS.resIV, AS.resArgs, AS.evParts, fillA, AS.fillRows, effCall, ivAV, ivAVs, avOf, acOf, A1.cells, C.flat, List.lookup, Fx.Holds, AS.behindRegion, AS.apps, thenA, inBlockA, InI64, splice, tab3, tab4, tab9, tab22, tab24, tab25, tab69]
  repeat (refine ⟨by first | assumption | omega, ?_⟩)
  apply hK1
  try clear hK1 K1
  refine awp_ret ?_
  try simp only [thenA, inBlockA]
  rw [← hQ]
  refine ⟨by first | exact .inl rfl | exact .inr rfl, ?_⟩
  simp [AS.result, AS.resVars, AS.resVar, AS.ivOf, AS.ivsOf, AS.resC, AS.resCs, resCs_map, C.flat, AS.get, AS.obj, AS.ups, AS.put, List.lookup, res109, tab3, tab4, tab9, tab22, tab24, tab25, tab69, wrows, dwords]
theorem call110 : Callable Try.prog 110 := callable_of Try.func110 (by kernel_rfl) (by kernel_rfl)
theorem res110 : Try.f110.results.toList = [.tmp 0] := rfl
set_option maxHeartbeats 4000000 in
set_option maxRecDepth 100000 in
theorem dwords_r  : ACalls Try.prog 110 [] (.v (.one (.slice (wrows dwords)))) true := by
  refine acalls_of_awp Try.func110 rfl call110 false (by rw [Try.ntmps110]; simp) fun w0 S => ?_
  rw [Try.ntmps110]
  generalize hQ : Done Try.prog false Try.f110.results.toList (.v (.one (.slice (wrows dwords)))) true = Q
  simp only [start, startEnv, argAV, Nat.zero_add, Nat.reduceAdd]
  refine awp_seq_k fun K0 hK0 => ?_
  refine awp_region' ([]) ?_
  simp [fxs, fxOf, dstOK, guardA, runOp, calleeOf, effOp, effBin, AS.ev, AS.get, AS.obj, AS.app, AS.ups, AS.put, AS.behind, AS.rowsOf, AS.resC, AS.resCs, resCs_map, AS.resIV, AS.resArgs, AS.evParts, fillA, AS.fillRows, effCall, ivAV, ivAVs, avOf, acOf, A1.cells, C.flat, List.lookup, Fx.Holds, AS.behindRegion, AS.apps, thenA, inBlockA, InI64, splice, tab3, tab4, tab9, tab22, tab24, tab25, tab69]
  repeat (refine ⟨by first | assumption | omega, ?_⟩)
  apply hK0
  try clear hK0 K0
  refine awp_seq_k fun K1 hK1 => ?_
  refine awp_region' ([]) ?_
  simp [fxs, fxOf, dstOK, guardA, runOp, calleeOf, effOp, effBin, AS.ev, AS.get, AS.obj, AS.app, AS.ups, AS.put, AS.behind, AS.rowsOf, AS.resC, AS.resCs, resCs_map, AS.resIV, AS.resArgs, AS.evParts, fillA, AS.fillRows, effCall, ivAV, ivAVs, avOf, acOf, A1.cells, C.flat, List.lookup, Fx.Holds, AS.behindRegion, AS.apps, thenA, inBlockA, InI64, splice, tab3, tab4, tab9, tab22, tab24, tab25, tab69]
  repeat (refine ⟨by first | assumption | omega, ?_⟩)
  apply hK1
  try clear hK1 K1
  refine awp_ret ?_
  try simp only [thenA, inBlockA]
  rw [← hQ]
  refine ⟨by first | exact .inl rfl | exact .inr rfl, ?_⟩
  simp [AS.result, AS.resVars, AS.resVar, AS.ivOf, AS.ivsOf, AS.resC, AS.resCs, resCs_map, C.flat, AS.get, AS.obj, AS.ups, AS.put, List.lookup, res110, tab3, tab4, tab9, tab22, tab24, tab25, tab69, wrows, dwords]
theorem call45 : Callable Try.prog 45 := callable_of Try.func45 (by kernel_rfl) (by kernel_rfl)
theorem res45 : Try.f45.results.toList = [.tmp 2] := rfl
set_option maxHeartbeats 4000000 in
set_option maxRecDepth 100000 in
theorem dword_c (r : Int) : ACalls Try.prog 45 [.one (.int r)] (.v (.one (.str (dword r)))) true := by
  refine acalls_of_awp Try.func45 rfl call45 false (by rw [Try.ntmps45]; simp) fun w0 S => ?_
  rw [Try.ntmps45]
  generalize hQ : Done Try.prog false Try.f45.results.toList (.v (.one (.str (dword r)))) true = Q
  simp only [start, startEnv, argAV, Nat.zero_add, Nat.reduceAdd]
  refine awp_seq_k fun K0 hK0 => ?_
  refine awp_region' ([]) ?_
  simp [fxs, fxOf, dstOK, guardA, runOp, calleeOf, effOp, effBin, AS.ev, AS.get, AS.obj, AS.app, AS.ups, AS.put, AS.behind, AS.rowsOf, AS.resC, AS.resCs, resCs_map, AS.resIV, AS.resArgs, AS.evParts, fillA, AS.fillRows, effCall, ivAV, ivAVs, avOf, acOf, A1.cells, C.flat, List.lookup, Fx.Holds, AS.behindRegion, AS.apps, thenA, inBlockA, InI64, splice, tab3, tab4, tab9, tab22, tab24, tab25, tab69]
  repeat (refine ⟨by first | assumption | omega, ?_⟩)
  apply hK0
  try clear hK0 K0
  refine awp_seq_k fun K1 hK1 => ?_
  refine awp_region' ([(0, .v (.one (.slice (wrows dwords))), true)]) ?_
  simp [fxs, fxOf, dstOK, guardA, runOp, calleeOf, effOp, effBin, AS.ev, AS.get, AS.obj, AS.app, AS.ups, AS.put, AS.behind, AS.rowsOf, AS.resC, AS.resCs, resCs_map, AS.resIV, AS.resArgs, AS.evParts, fillA, AS.fillRows, effCall, ivAV, ivAVs, avOf, acOf, A1.cells, C.flat, List.lookup, Fx.Holds, AS.behindRegion, AS.apps, thenA, inBlockA, InI64, splice, tab3, tab4, tab9, tab22, tab24, tab25, tab69, dwords_c]
  repeat (refine ⟨by first | assumption | omega, ?_⟩)
  apply hK1
  try clear hK1 K1
  refine awp_seq_k fun K2 hK2 => ?_
  refine awp_cut [0, 3] ([(12, bv (decide (r < 1) || decide (28 < r)))]) ([]) ?_ ?_ ?_
  · simp [wfs, AV.wf, A1.wf, AC.wf, Ob.wf, Below', iv, bv, tab3, tab4, tab9, tab22, tab24, tab25, tab69]
  · intro K3 hK3
    by_cases hs0 : r < 1
    · refine awp_region' ([]) ?_
      simp [fxs, fxOf, dstOK, guardA, runOp, calleeOf, effOp, effBin, AS.ev, AS.get, AS.obj, AS.app, AS.ups, AS.put, AS.behind, AS.rowsOf, AS.resC, AS.resCs, resCs_map, AS.resIV, AS.resArgs, AS.evParts, fillA, AS.fillRows, effCall, ivAV, ivAVs, avOf, acOf, A1.cells, C.flat, List.lookup, Fx.Holds, AS.behindRegion, AS.apps, thenA, inBlockA, InI64, splice, tab3, tab4, tab9, tab22, tab24, tab25, tab69, wrows_length, dwords_length, eq_true hs0]
      repeat (refine ⟨by first | assumption | omega, ?_⟩)
      refine hK3 _ ⟨?_, ?_, ?_⟩ <;> simp [AS.get, AS.obj, List.lookup, dd, List.filter_cons, List.filter_nil, tab3, tab4, tab9, tab22, tab24, tab25, tab69, eq_true hs0]
      all_goals first | omega | (simp_all <;> omega)
    · by_cases hs1 : 28 < r
      · refine awp_region' ([]) ?_
        simp [fxs, fxOf, dstOK, guardA, runOp, calleeOf, effOp, effBin, AS.ev, AS.get, AS.obj, AS.app, AS.ups, AS.put, AS.behind, AS.rowsOf, AS.resC, AS.resCs, resCs_map, AS.resIV, AS.resArgs, AS.evParts, fillA, AS.fillRows, effCall, ivAV, ivAVs, avOf, acOf, A1.cells, C.flat, List.lookup, Fx.Holds, AS.behindRegion, AS.apps, thenA, inBlockA, InI64, splice, tab3, tab4, tab9, tab22, tab24, tab25, tab69, wrows_length, dwords_length, eq_false hs0, eq_true hs1]
        repeat (refine ⟨by first | assumption | omega, ?_⟩)
        refine hK3 _ ⟨?_, ?_, ?_⟩ <;> simp [AS.get, AS.obj, List.lookup, dd, List.filter_cons, List.filter_nil, tab3, tab4, tab9, tab22, tab24, tab25, tab69, eq_false hs0, eq_true hs1]
        all_goals first | omega | (simp_all <;> omega)
      · refine awp_region' ([]) ?_
        simp [fxs, fxOf, dstOK, guardA, runOp, calleeOf, effOp, effBin, AS.ev, AS.get, AS.obj, AS.app, AS.ups, AS.put, AS.behind, AS.rowsOf, AS.resC, AS.resCs, resCs_map, AS.resIV, AS.resArgs, AS.evParts, fillA, AS.fillRows, effCall, ivAV, ivAVs, avOf, acOf, A1.cells, C.flat, List.lookup, Fx.Holds, AS.behindRegion, AS.apps, thenA, inBlockA, InI64, splice, tab3, tab4, tab9, tab22, tab24, tab25, tab69, wrows_length, dwords_length, eq_false hs0, eq_false hs1]
        repeat (refine ⟨by first | assumption | omega, ?_⟩)
        refine hK3 _ ⟨?_, ?_, ?_⟩ <;> simp [AS.get, AS.obj, List.lookup, dd, List.filter_cons, List.filter_nil, tab3, tab4, tab9, tab22, tab24, tab25, tab69, eq_false hs0, eq_false hs1]
        all_goals first | omega | (simp_all <;> omega)
  intro s3 hs3
  simp [AS.cut, AS.get, AS.obj, List.lookup, dd, List.filter_cons, List.filter_nil, tab3, tab4, tab9, tab22, tab24, tab25, tab69] at hs3
  subst hs3
  refine awp_cond rfl (fun hb_t12 => ?_) (fun hb_t12 => ?_)
  · try simp at hb_t12
    have hd := dword_out hb_t12
    refine awp_seq_k fun K4 hK4 => ?_
    refine awp_region' ([]) ?_
    simp [fxs, fxOf, dstOK, guardA, runOp, calleeOf, effOp, effBin, AS.ev, AS.get, AS.obj, AS.app, AS.ups, AS.put, AS.behind, AS.rowsOf, AS.resC, AS.resCs, resCs_map, AS.resIV, AS.resArgs, AS.evParts, fillA, AS.fillRows, effCall, ivAV, ivAVs, avOf, acOf, A1.cells, C.flat, List.lookup, Fx.Holds, AS.behindRegion, AS.apps, thenA, inBlockA, InI64, splice, tab3, tab4, tab9, tab22, tab24, tab25, tab69]
    repeat (refine ⟨by first | assumption | omega, ?_⟩)
    apply hK4
    try clear hK4 K4
    refine awp_ret ?_
    try simp only [thenA, inBlockA]
    rw [← hQ]
    refine ⟨by first | exact .inl rfl | exact .inr rfl, ?_⟩
    simp [AS.result, AS.resVars, AS.resVar, AS.ivOf, AS.ivsOf, AS.resC, AS.resCs, resCs_map, C.flat, AS.get, AS.obj, AS.ups, AS.put, List.lookup, res45, tab3, tab4, tab9, tab22, tab24, tab25, tab69, hd]
  · try simp at hb_t12
    obtain ⟨h1, h2⟩ := hb_t12
    have hd := dword_in h1 h2
    refine awp_skip ?_
    try simp only [thenA, inBlockA]
    apply hK2
    try clear hK2 K2
    refine awp_seq_k fun K5 hK5 => ?_
    refine awp_region' ([]) ?_
    simp [fxs, fxOf, dstOK, guardA, runOp, calleeOf, effOp, effBin, AS.ev, AS.get, AS.obj, AS.app, AS.ups, AS.put, AS.behind, AS.rowsOf, AS.resC, AS.resCs, resCs_map, AS.resIV, AS.resArgs, AS.evParts, fillA, AS.fillRows, effCall, ivAV, ivAVs, avOf, acOf, A1.cells, C.flat, List.lookup, Fx.Holds, AS.behindRegion, AS.apps, thenA, inBlockA, InI64, splice, tab3, tab4, tab9, tab22, tab24, tab25, tab69, wrows_length, dwords_length, hd]
    repeat (refine ⟨by first | assumption | omega, ?_⟩)
    apply hK5
    try clear hK5 K5
    refine awp_ret ?_
    try simp only [thenA, inBlockA]
    rw [← hQ]
    refine ⟨by first | exact .inl rfl | exact .inr rfl, ?_⟩
    simp [AS.result, AS.resVars, AS.resVar, AS.ivOf, AS.ivsOf, AS.resC, AS.resCs, resCs_map, C.flat, AS.get, AS.obj, AS.ups, AS.put, List.lookup, res45, tab3, tab4, tab9, tab22, tab24, tab25, tab69, hd]
theorem call52 : Callable Try.prog 52 := callable_of Try.func52 (by kernel_rfl) (by kernel_rfl)
theorem res52 : Try.f52.results.toList = [.tmp 2] := rfl
set_option maxHeartbeats 4000000 in
set_option maxRecDepth 100000 in
theorem dword_r (r : Int) : ACalls Try.prog 52 [.one (.int r)] (.v (.one (.str (dword r)))) true := by
  refine acalls_of_awp Try.func52 rfl call52 false (by rw [Try.ntmps52]; simp) fun w0 S => ?_
  rw [Try.ntmps52]
  generalize hQ : Done Try.prog false Try.f52.results.toList (.v (.one (.str (dword r)))) true = Q
  simp only [start, startEnv, argAV, Nat.zero_add, Nat.reduceAdd]
  refine awp_seq_k fun K0 hK0 => ?_
  refine awp_region' ([]) ?_
  simp [fxs, fxOf, dstOK, guardA, runOp, calleeOf, effOp, effBin, AS.ev, AS.get, AS.obj, AS.app, AS.ups, AS.put, AS.behind, AS.rowsOf, AS.resC, AS.resCs, resCs_map, AS.resIV, AS.resArgs, AS.evParts, fillA, AS.fillRows, effCall, ivAV, ivAVs, avOf, acOf, A1.cells, C.flat, List.lookup, Fx.Holds, AS.behindRegion, AS.apps, thenA, inBlockA, InI64, splice, tab3, tab4, tab9, tab22, tab24, tab25, tab69]
  repeat (refine ⟨by first | assumption | omega, ?_⟩)
  apply hK0
  try clear hK0 K0
  refine awp_seq_k fun K1 hK1 => ?_
  refine awp_cut [0] ([(8, bv (decide (r < 1) || decide (28 < r)))]) ([]) ?_ ?_ ?_
  · simp [wfs, AV.wf, A1.wf, AC.wf, Ob.wf, Below', iv, bv, tab3, tab4, tab9, tab22, tab24, tab25, tab69]
  · intro K2 hK2
    by_cases hs0 : r < 1
    · refine awp_region' ([]) ?_
      simp [fxs, fxOf, dstOK, guardA, runOp, calleeOf, effOp, effBin, AS.ev, AS.get, AS.obj, AS.app, AS.ups, AS.put, AS.behind, AS.rowsOf, AS.resC, AS.resCs, resCs_map, AS.resIV, AS.resArgs, AS.evParts, fillA, AS.fillRows, effCall, ivAV, ivAVs, avOf, acOf, A1.cells, C.flat, List.lookup, Fx.Holds, AS.behindRegion, AS.apps, thenA, inBlockA, InI64, splice, tab3, tab4, tab9, tab22, tab24, tab25, tab69, eq_true hs0]
      repeat (refine ⟨by first | assumption | omega, ?_⟩)
      refine hK2 _ ⟨?_, ?_, ?_⟩ <;> simp [AS.get, AS.obj, List.lookup, dd, List.filter_cons, List.filter_nil, tab3, tab4, tab9, tab22, tab24, tab25, tab69, eq_true hs0]
      all_goals first | omega | (simp_all <;> omega)
    · by_cases hs1 : 28 < r
      · refine awp_region' ([]) ?_
        simp [fxs, fxOf, dstOK, guardA, runOp, calleeOf, effOp, effBin, AS.ev, AS.get, AS.obj, AS.app, AS.ups, AS.put, AS.behind, AS.rowsOf, AS.resC, AS.resCs, resCs_map, AS.resIV, AS.resArgs, AS.evParts, fillA, AS.fillRows, effCall, ivAV, ivAVs, avOf, acOf, A1.cells, C.flat, List.lookup, Fx.Holds, AS.behindRegion, AS.apps, thenA, inBlockA, InI64, splice, tab3, tab4, tab9, tab22, tab24, tab25, tab69, eq_false hs0, eq_true hs1]
        repeat (refine ⟨by first | assumption | omega, ?_⟩)
        refine hK2 _ ⟨?_, ?_, ?_⟩ <;> simp [AS.get, AS.obj, List.lookup, dd, List.filter_cons, List.filter_nil, tab3, tab4, tab9, tab22, tab24, tab25, tab69, eq_false hs0, eq_true hs1]
        all_goals first | omega | (simp_all <;> omega)
      · refine awp_region' ([]) ?_
        simp [fxs, fxOf, dstOK, guardA, runOp, calleeOf, effOp, effBin, AS.ev, AS.get, AS.obj, AS.app, AS.ups, AS.put, AS.behind, AS.rowsOf, AS.resC, AS.resCs, resCs_map, AS.resIV, AS.resArgs, AS.evParts, fillA, AS.fillRows, effCall, ivAV, ivAVs, avOf, acOf, A1.cells, C.flat, List.lookup, Fx.Holds, AS.behindRegion, AS.apps, thenA, inBlockA, InI64, splice, tab3, tab4, tab9, tab22, tab24, tab25, tab69, eq_false hs0, eq_false hs1]
        repeat (refine ⟨by first | assumption | omega, ?_⟩)
        refine hK2 _ ⟨?_, ?_, ?_⟩ <;> simp [AS.get, AS.obj, List.lookup, dd, List.filter_cons, List.filter_nil, tab3, tab4, tab9, tab22, tab24, tab25, tab69, eq_false hs0, eq_false hs1]
        all_goals first | omega | (simp_all <;> omega)
  intro s2 hs2
  simp [AS.cut, AS.get, AS.obj, List.lookup, dd, List.filter_cons, List.filter_nil, tab3, tab4, tab9, tab22, tab24, tab25, tab69] at hs2
  subst hs2
  refine awp_cond rfl (fun hb_t8 => ?_) (fun hb_t8 => ?_)
  · try simp at hb_t8
    have hd := dword_out hb_t8
    refine awp_seq_k fun K3 hK3 => ?_
    refine awp_region' ([]) ?_
    simp [fxs, fxOf, dstOK, guardA, runOp, calleeOf, effOp, effBin, AS.ev, AS.get, AS.obj, AS.app, AS.ups, AS.put, AS.behind, AS.rowsOf, AS.resC, AS.resCs, resCs_map, AS.resIV, AS.resArgs, AS.evParts, fillA, AS.fillRows, effCall, ivAV, ivAVs, avOf, acOf, A1.cells, C.flat, List.lookup, Fx.Holds, AS.behindRegion, AS.apps, thenA, inBlockA, InI64, splice, tab3, tab4, tab9, tab22, tab24, tab25, tab69]
    repeat (refine ⟨by first | assumption | omega, ?_⟩)
    apply hK3
    try clear hK3 K3
    refine awp_ret ?_
    try simp only [thenA, inBlockA]
    rw [← hQ]
    refine ⟨by first | exact .inl rfl | exact .inr rfl, ?_⟩
    simp [AS.result, AS.resVars, AS.resVar, AS.ivOf, AS.ivsOf, AS.resC, AS.resCs, resCs_map, C.flat, AS.get, AS.obj, AS.ups, AS.put, List.lookup, res52, tab3, tab4, tab9, tab22, tab24, tab25, tab69, hd]
  · try simp at hb_t8
    obtain ⟨h1, h2⟩ := hb_t8
    have hd := dword_in h1 h2
    refine awp_skip ?_
    try simp only [thenA, inBlockA]
    apply hK1
    try clear hK1 K1
    refine awp_seq_k fun K4 hK4 => ?_
    refine awp_region' ([(0, .v (.one (.slice (wrows dwords))), true)]) ?_
    simp [fxs, fxOf, dstOK, guardA, runOp, calleeOf, effOp, effBin, AS.ev, AS.get, AS.obj, AS.app, AS.ups, AS.put, AS.behind, AS.rowsOf, AS.resC, AS.resCs, resCs_map, AS.resIV, AS.resArgs, AS.evParts, fillA, AS.fillRows, effCall, ivAV, ivAVs, avOf, acOf, A1.cells, C.flat, List.lookup, Fx.Holds, AS.behindRegion, AS.apps, thenA, inBlockA, InI64, splice, tab3, tab4, tab9, tab22, tab24, tab25, tab69, dwords_r, wrows_length, dwords_length, hd]
    repeat (refine ⟨by first | assumption | omega, ?_⟩)
    apply hK4
    try clear hK4 K4
    refine awp_ret ?_
    try simp only [thenA, inBlockA]
    rw [← hQ]
    refine ⟨by first | exact .inl rfl | exact .inr rfl, ?_⟩
    simp [AS.result, AS.resVars, AS.resVar, AS.ivOf, AS.ivsOf, AS.resC, AS.resCs, resCs_map, C.flat, AS.get, AS.obj, AS.ups, AS.put, List.lookup, res52, tab3, tab4, tab9, tab22, tab24, tab25, tab69, hd]
theorem call53 : Callable Try.prog 53 := callable_of Try.func53 (by kernel_rfl) (by kernel_rfl)
theorem res53 : Try.f53.results.toList = [.tmp 2] := rfl
set_option maxHeartbeats 4000000 in
set_option maxRecDepth 100000 in
theorem drule_c (w : ByteArray) : ACalls Try.prog 53 [.one (.str w)] (.v (.one (.int (drule w)))) true := by
  refine acalls_of_awp Try.func53 rfl call53 false (by rw [Try.ntmps53]; simp) fun w0 S => ?_
  rw [Try.ntmps53]
  generalize hQ : Done Try.prog false Try.f53.results.toList (.v (.one (.int (drule w)))) true = Q
  simp only [start, startEnv, argAV, Nat.zero_add, Nat.reduceAdd]
  refine awp_seq_k fun K0 hK0 => ?_
  refine awp_region' ([]) ?_
  simp [fxs, fxOf, dstOK, guardA, runOp, calleeOf, effOp, effBin, AS.ev, AS.get, AS.obj, AS.app, AS.ups, AS.put, AS.behind, AS.rowsOf, AS.resC, AS.resCs, resCs_map, AS.resIV, AS.resArgs, AS.evParts, fillA, AS.fillRows, effCall, ivAV, ivAVs, avOf, acOf, A1.cells, C.flat, List.lookup, Fx.Holds, AS.behindRegion, AS.apps, thenA, inBlockA, InI64, splice, tab3, tab4, tab9, tab22, tab24, tab25, tab69]
  repeat (refine ⟨by first | assumption | omega, ?_⟩)
  apply hK0
  try clear hK0 K0
  refine awp_seq_k fun K1 hK1 => ?_
  refine awp_seq_k fun K2 hK2 => ?_
  refine awp_region' ([(0, .v (.one (.slice (wrows dwords))), true)]) ?_
  simp [fxs, fxOf, dstOK, guardA, runOp, calleeOf, effOp, effBin, AS.ev, AS.get, AS.obj, AS.app, AS.ups, AS.put, AS.behind, AS.rowsOf, AS.resC, AS.resCs, resCs_map, AS.resIV, AS.resArgs, AS.evParts, fillA, AS.fillRows, effCall, ivAV, ivAVs, avOf, acOf, A1.cells, C.flat, List.lookup, Fx.Holds, AS.behindRegion, AS.apps, thenA, inBlockA, InI64, splice, tab3, tab4, tab9, tab22, tab24, tab25, tab69, dwords_c, wrows_length, dwords_length]
  repeat (refine ⟨by first | assumption | omega, ?_⟩)
  apply hK2
  try clear hK2 K2
  refine awp_block ?_
  refine awp_round (A := Unit) (28) (fun k a => wfind (dwords.drop k) k w = drule w) [0, 5, 6] (fun k a => [(7, iv k)]) (fun k a => []) (()) ?_ ?_ ?_ ?_
  · simp [drule]
  · refine ⟨?_, ?_, ?_⟩ <;> simp [AS.get, AS.obj, List.lookup, dd, List.filter_cons, List.filter_nil, tab3, tab4, tab9, tab22, tab24, tab25, tab69]
  · intro k a; simp [wfs, AV.wf, A1.wf, AC.wf, Ob.wf, Below', iv, bv, tab3, tab4, tab9, tab22, tab24, tab25, tab69]
  intro k a KL0 hk hI hKL0 sl hsl
  simp [AS.cut, AS.get, AS.obj, List.lookup, dd, List.filter_cons, List.filter_nil, tab3, tab4, tab9, tab22, tab24, tab25, tab69] at hsl
  subst hsl
  refine awp_seq_k fun K3 hK3 => ?_
  refine awp_region' ([]) ?_
  simp [fxs, fxOf, dstOK, guardA, runOp, calleeOf, effOp, effBin, AS.ev, AS.get, AS.obj, AS.app, AS.ups, AS.put, AS.behind, AS.rowsOf, AS.resC, AS.resCs, resCs_map, AS.resIV, AS.resArgs, AS.evParts, fillA, AS.fillRows, effCall, ivAV, ivAVs, avOf, acOf, A1.cells, C.flat, List.lookup, Fx.Holds, AS.behindRegion, AS.apps, thenA, inBlockA, InI64, splice, tab3, tab4, tab9, tab22, tab24, tab25, tab69]
  repeat (refine ⟨by first | assumption | omega, ?_⟩)
  apply hK3
  try clear hK3 K3
  refine awp_seq_k fun K4 hK4 => ?_
  refine awp_cond rfl (fun hb_t8 => ?_) (fun hb_t8 => ?_)
  · try simp at hb_t8
    have hg := wrows_get (l := dwords) (k := k) (by rw [dwords_length]; omega)
    have hd := wfind_drop (l := dwords) (k := k) (by rw [dwords_length]; omega) k w
    refine awp_skip ?_
    try simp only [thenA, inBlockA]
    apply hK4
    try clear hK4 K4
    refine awp_seq_k fun K5 hK5 => ?_
    refine awp_block ?_
    refine awp_seq_k fun K6 hK6 => ?_
    refine awp_region' ([]) ?_
    simp [fxs, fxOf, dstOK, guardA, runOp, calleeOf, effOp, effBin, AS.ev, AS.get, AS.obj, AS.app, AS.ups, AS.put, AS.behind, AS.rowsOf, AS.resC, AS.resCs, resCs_map, AS.resIV, AS.resArgs, AS.evParts, fillA, AS.fillRows, effCall, ivAV, ivAVs, avOf, acOf, A1.cells, C.flat, List.lookup, Fx.Holds, AS.behindRegion, AS.apps, thenA, inBlockA, InI64, splice, tab3, tab4, tab9, tab22, tab24, tab25, tab69, wrows_length, dwords_length, hg]
    repeat (refine ⟨by first | assumption | omega, ?_⟩)
    apply hK6
    try clear hK6 K6
    refine awp_seq_k fun K7 hK7 => ?_
    refine awp_region' ([]) ?_
    simp [fxs, fxOf, dstOK, guardA, runOp, calleeOf, effOp, effBin, AS.ev, AS.get, AS.obj, AS.app, AS.ups, AS.put, AS.behind, AS.rowsOf, AS.resC, AS.resCs, resCs_map, AS.resIV, AS.resArgs, AS.evParts, fillA, AS.fillRows, effCall, ivAV, ivAVs, avOf, acOf, A1.cells, C.flat, List.lookup, Fx.Holds, AS.behindRegion, AS.apps, thenA, inBlockA, InI64, splice, tab3, tab4, tab9, tab22, tab24, tab25, tab69]
    repeat (refine ⟨by first | assumption | omega, ?_⟩)
    apply hK7
    try clear hK7 K7
    refine awp_cond rfl (fun hb_t14 => ?_) (fun hb_t14 => ?_)
    · try simp at hb_t14
      rw [hd, if_pos (by simpa using hb_t14)] at hI
      refine awp_seq_k fun K8 hK8 => ?_
      refine awp_region' ([]) ?_
      simp [fxs, fxOf, dstOK, guardA, runOp, calleeOf, effOp, effBin, AS.ev, AS.get, AS.obj, AS.app, AS.ups, AS.put, AS.behind, AS.rowsOf, AS.resC, AS.resCs, resCs_map, AS.resIV, AS.resArgs, AS.evParts, fillA, AS.fillRows, effCall, ivAV, ivAVs, avOf, acOf, A1.cells, C.flat, List.lookup, Fx.Holds, AS.behindRegion, AS.apps, thenA, inBlockA, InI64, splice, tab3, tab4, tab9, tab22, tab24, tab25, tab69]
      repeat (refine ⟨by first | assumption | omega, ?_⟩)
      apply hK8
      try clear hK8 K8
      refine awp_ret ?_
      try simp only [thenA, inBlockA]
      rw [← hQ]
      refine ⟨by first | exact .inl rfl | exact .inr rfl, ?_⟩
      simp [AS.result, AS.resVars, AS.resVar, AS.ivOf, AS.ivsOf, AS.resC, AS.resCs, resCs_map, C.flat, AS.get, AS.obj, AS.ups, AS.put, List.lookup, res53, tab3, tab4, tab9, tab22, tab24, tab25, tab69, ← hI, wfind, dwords]
    · try simp at hb_t14
      refine awp_skip ?_
      try simp only [thenA, inBlockA]
      apply hK5
      try clear hK5 K5
      refine awp_region' ([]) ?_
      simp [fxs, fxOf, dstOK, guardA, runOp, calleeOf, effOp, effBin, AS.ev, AS.get, AS.obj, AS.app, AS.ups, AS.put, AS.behind, AS.rowsOf, AS.resC, AS.resCs, resCs_map, AS.resIV, AS.resArgs, AS.evParts, fillA, AS.fillRows, effCall, ivAV, ivAVs, avOf, acOf, A1.cells, C.flat, List.lookup, Fx.Holds, AS.behindRegion, AS.apps, thenA, inBlockA, InI64, splice, tab3, tab4, tab9, tab22, tab24, tab25, tab69]
      repeat (refine ⟨by first | assumption | omega, ?_⟩)
      refine hKL0 _ (()) (by omega) ?_ ?_
      · rw [hd, if_neg (by simpa using hb_t14)] at hI; exact hI
      · refine ⟨?_, ?_, ?_⟩ <;> simp [AS.get, AS.obj, List.lookup, dd, List.filter_cons, List.filter_nil, tab3, tab4, tab9, tab22, tab24, tab25, tab69]
  · try simp at hb_t8
    have hk2 : k = 28 := by omega
    subst hk2
    refine awp_exit ?_
    try simp only [thenA, inBlockA, if_true, if_false, reduceIte, Nat.reduceEqDiff]
    apply hK1
    try clear hK1 K1
    refine awp_seq_k fun K9 hK9 => ?_
    refine awp_region' ([]) ?_
    simp [fxs, fxOf, dstOK, guardA, runOp, calleeOf, effOp, effBin, AS.ev, AS.get, AS.obj, AS.app, AS.ups, AS.put, AS.behind, AS.rowsOf, AS.resC, AS.resCs, resCs_map, AS.resIV, AS.resArgs, AS.evParts, fillA, AS.fillRows, effCall, ivAV, ivAVs, avOf, acOf, A1.cells, C.flat, List.lookup, Fx.Holds, AS.behindRegion, AS.apps, thenA, inBlockA, InI64, splice, tab3, tab4, tab9, tab22, tab24, tab25, tab69]
    repeat (refine ⟨by first | assumption | omega, ?_⟩)
    apply hK9
    try clear hK9 K9
    refine awp_ret ?_
    try simp only [thenA, inBlockA]
    rw [← hQ]
    refine ⟨by first | exact .inl rfl | exact .inr rfl, ?_⟩
    simp [AS.result, AS.resVars, AS.resVar, AS.ivOf, AS.ivsOf, AS.resC, AS.resCs, resCs_map, C.flat, AS.get, AS.obj, AS.ups, AS.put, List.lookup, res53, tab3, tab4, tab9, tab22, tab24, tab25, tab69, ← hI, wfind, dwords]
theorem call54 : Callable Try.prog 54 := callable_of Try.func54 (by kernel_rfl) (by kernel_rfl)
theorem res54 : Try.f54.results.toList = [.tmp 2] := rfl
set_option maxHeartbeats 4000000 in
set_option maxRecDepth 100000 in
theorem drule_r (w : ByteArray) : ACalls Try.prog 54 [.one (.str w)] (.v (.one (.int (drule w)))) true := by
  refine acalls_of_awp Try.func54 rfl call54 false (by rw [Try.ntmps54]; simp) fun w0 S => ?_
  rw [Try.ntmps54]
  generalize hQ : Done Try.prog false Try.f54.results.toList (.v (.one (.int (drule w)))) true = Q
  simp only [start, startEnv, argAV, Nat.zero_add, Nat.reduceAdd]
  refine awp_seq_k fun K0 hK0 => ?_
  refine awp_region' ([]) ?_
  simp [fxs, fxOf, dstOK, guardA, runOp, calleeOf, effOp, effBin, AS.ev, AS.get, AS.obj, AS.app, AS.ups, AS.put, AS.behind, AS.rowsOf, AS.resC, AS.resCs, resCs_map, AS.resIV, AS.resArgs, AS.evParts, fillA, AS.fillRows, effCall, ivAV, ivAVs, avOf, acOf, A1.cells, C.flat, List.lookup, Fx.Holds, AS.behindRegion, AS.apps, thenA, inBlockA, InI64, splice, tab3, tab4, tab9, tab22, tab24, tab25, tab69]
  repeat (refine ⟨by first | assumption | omega, ?_⟩)
  apply hK0
  try clear hK0 K0
  refine awp_seq_k fun K1 hK1 => ?_
  refine awp_region' ([(0, .v (.one (.slice (wrows dwords))), true)]) ?_
  simp [fxs, fxOf, dstOK, guardA, runOp, calleeOf, effOp, effBin, AS.ev, AS.get, AS.obj, AS.app, AS.ups, AS.put, AS.behind, AS.rowsOf, AS.resC, AS.resCs, resCs_map, AS.resIV, AS.resArgs, AS.evParts, fillA, AS.fillRows, effCall, ivAV, ivAVs, avOf, acOf, A1.cells, C.flat, List.lookup, Fx.Holds, AS.behindRegion, AS.apps, thenA, inBlockA, InI64, splice, tab3, tab4, tab9, tab22, tab24, tab25, tab69, dwords_r, wrows_length, dwords_length]
  repeat (refine ⟨by first | assumption | omega, ?_⟩)
  apply hK1
  try clear hK1 K1
  refine awp_seq_k fun K2 hK2 => ?_
  refine awp_seq_k fun K3 hK3 => ?_
  refine awp_region' ([]) ?_
  simp [fxs, fxOf, dstOK, guardA, runOp, calleeOf, effOp, effBin, AS.ev, AS.get, AS.obj, AS.app, AS.ups, AS.put, AS.behind, AS.rowsOf, AS.resC, AS.resCs, resCs_map, AS.resIV, AS.resArgs, AS.evParts, fillA, AS.fillRows, effCall, ivAV, ivAVs, avOf, acOf, A1.cells, C.flat, List.lookup, Fx.Holds, AS.behindRegion, AS.apps, thenA, inBlockA, InI64, splice, tab3, tab4, tab9, tab22, tab24, tab25, tab69]
  repeat (refine ⟨by first | assumption | omega, ?_⟩)
  apply hK3
  try clear hK3 K3
  refine awp_block ?_
  refine awp_round (A := Unit) (28) (fun k a => wfind (dwords.drop k) k w = drule w) [0, 3] (fun k a => [(4, iv k)]) (fun k a => []) (()) ?_ ?_ ?_ ?_
  · simp [drule]
  · refine ⟨?_, ?_, ?_⟩ <;> simp [AS.get, AS.obj, List.lookup, dd, List.filter_cons, List.filter_nil, tab3, tab4, tab9, tab22, tab24, tab25, tab69]
  · intro k a; simp [wfs, AV.wf, A1.wf, AC.wf, Ob.wf, Below', iv, bv, tab3, tab4, tab9, tab22, tab24, tab25, tab69]
  intro k a KL0 hk hI hKL0 sl hsl
  simp [AS.cut, AS.get, AS.obj, List.lookup, dd, List.filter_cons, List.filter_nil, tab3, tab4, tab9, tab22, tab24, tab25, tab69] at hsl
  subst hsl
  refine awp_seq_k fun K4 hK4 => ?_
  refine awp_seq_k fun K5 hK5 => ?_
  refine awp_region' ([]) ?_
  simp [fxs, fxOf, dstOK, guardA, runOp, calleeOf, effOp, effBin, AS.ev, AS.get, AS.obj, AS.app, AS.ups, AS.put, AS.behind, AS.rowsOf, AS.resC, AS.resCs, resCs_map, AS.resIV, AS.resArgs, AS.evParts, fillA, AS.fillRows, effCall, ivAV, ivAVs, avOf, acOf, A1.cells, C.flat, List.lookup, Fx.Holds, AS.behindRegion, AS.apps, thenA, inBlockA, InI64, splice, tab3, tab4, tab9, tab22, tab24, tab25, tab69, wrows_length, dwords_length]
  repeat (refine ⟨by first | assumption | omega, ?_⟩)
  apply hK5
  try clear hK5 K5
  refine awp_cond rfl (fun hb_t9 => ?_) (fun hb_t9 => ?_)
  · try simp at hb_t9
    have hg := wrows_get (l := dwords) (k := k) (by rw [dwords_length]; omega)
    have hd := wfind_drop (l := dwords) (k := k) (by rw [dwords_length]; omega) k w
    refine awp_skip ?_
    try simp only [thenA, inBlockA]
    apply hK4
    try clear hK4 K4
    refine awp_seq_k fun K6 hK6 => ?_
    refine awp_block ?_
    refine awp_seq_k fun K7 hK7 => ?_
    refine awp_region' ([]) ?_
    simp [fxs, fxOf, dstOK, guardA, runOp, calleeOf, effOp, effBin, AS.ev, AS.get, AS.obj, AS.app, AS.ups, AS.put, AS.behind, AS.rowsOf, AS.resC, AS.resCs, resCs_map, AS.resIV, AS.resArgs, AS.evParts, fillA, AS.fillRows, effCall, ivAV, ivAVs, avOf, acOf, A1.cells, C.flat, List.lookup, Fx.Holds, AS.behindRegion, AS.apps, thenA, inBlockA, InI64, splice, tab3, tab4, tab9, tab22, tab24, tab25, tab69, wrows_length, dwords_length, hg]
    repeat (refine ⟨by first | assumption | omega, ?_⟩)
    apply hK7
    try clear hK7 K7
    refine awp_cond rfl (fun hb_t17 => ?_) (fun hb_t17 => ?_)
    · try simp at hb_t17
      rw [hd, if_pos (by simpa using hb_t17)] at hI
      refine awp_seq_k fun K8 hK8 => ?_
      refine awp_region' ([]) ?_
      simp [fxs, fxOf, dstOK, guardA, runOp, calleeOf, effOp, effBin, AS.ev, AS.get, AS.obj, AS.app, AS.ups, AS.put, AS.behind, AS.rowsOf, AS.resC, AS.resCs, resCs_map, AS.resIV, AS.resArgs, AS.evParts, fillA, AS.fillRows, effCall, ivAV, ivAVs, avOf, acOf, A1.cells, C.flat, List.lookup, Fx.Holds, AS.behindRegion, AS.apps, thenA, inBlockA, InI64, splice, tab3, tab4, tab9, tab22, tab24, tab25, tab69]
      repeat (refine ⟨by first | assumption | omega, ?_⟩)
      apply hK8
      try clear hK8 K8
      refine awp_ret ?_
      try simp only [thenA, inBlockA]
      rw [← hQ]
      refine ⟨by first | exact .inl rfl | exact .inr rfl, ?_⟩
      simp [AS.result, AS.resVars, AS.resVar, AS.ivOf, AS.ivsOf, AS.resC, AS.resCs, resCs_map, C.flat, AS.get, AS.obj, AS.ups, AS.put, List.lookup, res54, tab3, tab4, tab9, tab22, tab24, tab25, tab69, ← hI, wfind, dwords]
    · try simp at hb_t17
      refine awp_skip ?_
      try simp only [thenA, inBlockA]
      apply hK6
      try clear hK6 K6
      refine awp_region' ([]) ?_
      simp [fxs, fxOf, dstOK, guardA, runOp, calleeOf, effOp, effBin, AS.ev, AS.get, AS.obj, AS.app, AS.ups, AS.put, AS.behind, AS.rowsOf, AS.resC, AS.resCs, resCs_map, AS.resIV, AS.resArgs, AS.evParts, fillA, AS.fillRows, effCall, ivAV, ivAVs, avOf, acOf, A1.cells, C.flat, List.lookup, Fx.Holds, AS.behindRegion, AS.apps, thenA, inBlockA, InI64, splice, tab3, tab4, tab9, tab22, tab24, tab25, tab69]
      repeat (refine ⟨by first | assumption | omega, ?_⟩)
      refine hKL0 _ (()) (by omega) ?_ ?_
      · rw [hd, if_neg (by simpa using hb_t17)] at hI; exact hI
      · refine ⟨?_, ?_, ?_⟩ <;> simp [AS.get, AS.obj, List.lookup, dd, List.filter_cons, List.filter_nil, tab3, tab4, tab9, tab22, tab24, tab25, tab69]
  · try simp at hb_t9
    have hk2 : k = 28 := by omega
    subst hk2
    refine awp_exit ?_
    try simp only [thenA, inBlockA, if_true, if_false, reduceIte, Nat.reduceEqDiff]
    apply hK2
    try clear hK2 K2
    refine awp_seq_k fun K9 hK9 => ?_
    refine awp_region' ([]) ?_
    simp [fxs, fxOf, dstOK, guardA, runOp, calleeOf, effOp, effBin, AS.ev, AS.get, AS.obj, AS.app, AS.ups, AS.put, AS.behind, AS.rowsOf, AS.resC, AS.resCs, resCs_map, AS.resIV, AS.resArgs, AS.evParts, fillA, AS.fillRows, effCall, ivAV, ivAVs, avOf, acOf, A1.cells, C.flat, List.lookup, Fx.Holds, AS.behindRegion, AS.apps, thenA, inBlockA, InI64, splice, tab3, tab4, tab9, tab22, tab24, tab25, tab69]
    repeat (refine ⟨by first | assumption | omega, ?_⟩)
    apply hK9
    try clear hK9 K9
    refine awp_ret ?_
    try simp only [thenA, inBlockA]
    rw [← hQ]
    refine ⟨by first | exact .inl rfl | exact .inr rfl, ?_⟩
    simp [AS.result, AS.resVars, AS.resVar, AS.ivOf, AS.ivsOf, AS.resC, AS.resCs, resCs_map, C.flat, AS.get, AS.obj, AS.ups, AS.put, List.lookup, res54, tab3, tab4, tab9, tab22, tab24, tab25, tab69, ← hI, wfind, dwords]
end Go.Proofs.Yteaglcbnkephgaa

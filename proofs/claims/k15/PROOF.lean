import PyProof.Rows.All
import Wide.All
import OpenK.AllK
import Wide.FinOn
import PySem.Challenge.RW_honestestimates_k15_exceptions
open PySem PySem.W PySem.W.X PyProof.Rows
set_option Elab.async false
set_option maxRecDepth 100000 in
set_option maxHeartbeats 0 in
theorem PySem.Challenge.cw_honestestimates_k15_exceptions_holds : PySem.Challenge.rw_honestestimates_k15_exceptions.Holds := by
  open_z

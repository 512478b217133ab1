/-
  PLAIN LAWS OF THE CALENDAR (no Go in sight): leap years, months' lengths, day numbers, and that a number has one date.
-/
set_option linter.unusedSimpArgs false
set_option linter.unusedVariables false
namespace Go.Proofs.YteagpbkbdlmdiaaGreat.Cal
def leap (y:Int):Bool:=decide (1≤y) && decide (y≤9999) && decide (y % 4=0) && (decide (y % 100 ≠ 0) || decide (y % 400=0))
def lpI (y:Int):Int:=if leap y=true then 1 else 0
def tab (m:Int):Int:=if m=2 then 28 else if m=4∨m=6∨m=9∨m=11 then 30 else 31
def len (y m:Int):Int:=if 1≤y∧y≤9999∧1≤m∧m≤12 then (if m=2 then 28+lpI y else tab m) else 0
end Go.Proofs.YteagpbkbdlmdiaaGreat.Cal

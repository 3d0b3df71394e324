/- Each Go function that the law reaches keeps the contract that its Lean function states; conditions: none. -/
import Derived.Test.YtnmfhmmhfhjkiaaA1
import Derived.Test.YtnmfhmmhfhjkiaaSFnExactRefundOf0
import Derived.Test.YtnmfhmmhfhjkiaaProg
noncomputable section
set_option linter.unusedVariables false
set_option maxRecDepth 100000
namespace Go.Sh
open Go Go.AM Go.Proofs
namespace laws_toInt64S
def entry (k : Nat) : Entry := ⟨[.ro (.sl 2 (.int .i64))], [.own (.sl 2 (.int .i64))], fun (a0, _) => f k a0⟩
def env (k : Nat) : Env := ⟨Try.prog, 22, AM.look none [], AM.look none [(3, some ⟨[(0, .asis), (3, .asis), (4, .asis)], [(3, .asis)]⟩)]⟩
abbrev R := Res [.own (.sl 2 (.int .i64))] × Outs [.ro (.sl 2 (.int .i64))]
def sh3 : Shape := ⟨[(0, .val (.sl 2 (.int .i64))), (3, .ref 0), (4, .val (.int .i64))], [(0, .row 2 (.int .i64))], 1, []⟩
def osh3kx0 : Shape := ⟨[(3, .ref 0)], [(0, .row 2 (.int .i64))], 1, []⟩
def un3 : (List Int) × Int × (List Int) → sh3.V := fun (x0, x4, y0) => ((x0, ((), (x4, ()))), (y0, ()))
def fl3 : sh3.V → (List Int) × Int × (List Int) := fun ((x0, (_, (x4, _))), (y0, _)) => (x0, x4, y0)
def L (k : Nat) (q : Nat) (s : St) (K : AExit → St → Option R) : Option R := bif Nat.beq q 3 then (match sh3.dec s with | some v => l3 (R := R) k k (fl3 v) (fun y0 => K (.exit 0) (osh3kx0.enc (((), ()), (y0, ())))) | none => none) else (none)
theorem step3 (k n : Nat) (K : AExit → St → Option R) : ∀ v, aloop (aexec (env k) (L k) ((findLoop 3 (codeOf Try.f14)).getD .skip)) (normSt [(0, .asis), (3, .asis), (4, .asis)]) (normSt [(3, .asis)]) K (n + 1) (sh3.enc (un3 v)) = s3 (R := R) k (fun w => aloop (aexec (env k) (L k) ((findLoop 3 (codeOf Try.f14)).getD .skip)) (normSt [(0, .asis), (3, .asis), (4, .asis)]) (normSt [(3, .asis)]) K n (sh3.enc (un3 w))) (fun y0 => K (.exit 0) (osh3kx0.enc (((), ()), (y0, ())))) v := by intro v; kernel_rfl
theorem eq (k : Nat) : ∀ a, aexec (env k) (L k) (codeOf Try.f14) (begSt [.ro (.sl 2 (.int .i64))] a) (finK (env k) Try.f14 [.ro (.sl 2 (.int .i64))] [.own (.sl 2 (.int .i64))]) = (entry k).fn a := by intro a; kernel_rfl
theorem run3 (k : Nat) (K : AExit → St → Option R) : ∀ n v, aloop (aexec (env k) (L k) ((findLoop 3 (codeOf Try.f14)).getD .skip)) (normSt [(0, .asis), (3, .asis), (4, .asis)]) (normSt [(3, .asis)]) K n (sh3.enc (un3 v)) = l3 (R := R) k n v (fun y0 => K (.exit 0) (osh3kx0.enc (((), ()), (y0, ())))) := loop_eq (fun n v => aloop (aexec (env k) (L k) ((findLoop 3 (codeOf Try.f14)).getD .skip)) (normSt [(0, .asis), (3, .asis), (4, .asis)]) (normSt [(3, .asis)]) K n (sh3.enc (un3 v))) (fun n v => l3 (R := R) k n v (fun y0 => K (.exit 0) (osh3kx0.enc (((), ()), (y0, ()))))) (fun X v => s3 (R := R) k X (fun y0 => K (.exit 0) (osh3kx0.enc (((), ()), (y0, ())))) v) (fun _ => rfl) (fun n v => step3 k n K v) (fun n v => rfl)
theorem loops (k : Nat) : LoopsOk (env k) (L k) (codeOf Try.f14) := by
  intro c an hc han s K r h
  unfold L at h
  by_cases q3 : firstRegion c = 3
  · have h1 := key_eq q3 h
    rw [q3] at hc han
    have e2 : an = ⟨[(0, .asis), (3, .asis), (4, .asis)], [(3, .asis)]⟩ := (Option.some.inj (show some _ = some an from han)).symm
    have e1 : c = (findLoop 3 (codeOf Try.f14)).getD .skip := by rw [hc]; rfl
    cases hd : sh3.dec s with
    | none => rw [hd] at h1; cases h1
    | some v =>
      rw [hd] at h1
      refine ⟨k, ?_⟩
      rw [e1, e2, Shape.dec_enc _ _ _ hd]
      exact (run3 k K k (fl3 v)).trans h1
  have h := not_key q3 h
  cases h
theorem fit (k : Nat) : codeFit (env k) (codeOf Try.f14) = true := by kernel_rfl
theorem lps : (loopsIn (codeOf Try.f14)).map (fun d => findLoop (firstRegion d) (codeOf Try.f14)) = (loopsIn (codeOf Try.f14)).map some := by kernel_rfl
theorem hf : Try.prog.funcs[14]? = some Try.f14 := by kernel_rfl
theorem hb : Try.f14.body = some (codeOf Try.f14) := by kernel_rfl
theorem hn : (Try.f14.name == "runtime.NumGoroutine") = false := by kernel_rfl
theorem sound (k : Nat) : Sound Try.prog 14 (entry k) := func_sound (E := env k) (by kernel_rfl) (by kernel_rfl) (by kernel_rfl) tbl_nil hf hb hn (fit k) (loops_all lps) (loops k) (eq k)
end laws_toInt64S

namespace laws_toBoolS
def entry (k : Nat) : Entry := ⟨[.ro (.sl 4 .bool)], [.own (.sl 4 .bool)], fun (a0, _) => f k a0⟩
def env (k : Nat) : Env := ⟨Try.prog, 22, AM.look none [], AM.look none [(3, some ⟨[(0, .asis), (3, .asis), (4, .asis)], [(3, .asis)]⟩)]⟩
abbrev R := Res [.own (.sl 4 .bool)] × Outs [.ro (.sl 4 .bool)]
def sh3 : Shape := ⟨[(0, .val (.sl 4 .bool)), (3, .ref 0), (4, .val (.int .i64))], [(0, .row 4 .bool)], 1, []⟩
def osh3kx0 : Shape := ⟨[(3, .ref 0)], [(0, .row 4 .bool)], 1, []⟩
def un3 : (List Bool) × Int × (List Bool) → sh3.V := fun (x0, x4, y0) => ((x0, ((), (x4, ()))), (y0, ()))
def fl3 : sh3.V → (List Bool) × Int × (List Bool) := fun ((x0, (_, (x4, _))), (y0, _)) => (x0, x4, y0)
def L (k : Nat) (q : Nat) (s : St) (K : AExit → St → Option R) : Option R := bif Nat.beq q 3 then (match sh3.dec s with | some v => l3 (R := R) k k (fl3 v) (fun y0 => K (.exit 0) (osh3kx0.enc (((), ()), (y0, ())))) | none => none) else (none)
theorem step3 (k n : Nat) (K : AExit → St → Option R) : ∀ v, aloop (aexec (env k) (L k) ((findLoop 3 (codeOf Try.f15)).getD .skip)) (normSt [(0, .asis), (3, .asis), (4, .asis)]) (normSt [(3, .asis)]) K (n + 1) (sh3.enc (un3 v)) = s3 (R := R) k (fun w => aloop (aexec (env k) (L k) ((findLoop 3 (codeOf Try.f15)).getD .skip)) (normSt [(0, .asis), (3, .asis), (4, .asis)]) (normSt [(3, .asis)]) K n (sh3.enc (un3 w))) (fun y0 => K (.exit 0) (osh3kx0.enc (((), ()), (y0, ())))) v := by intro v; kernel_rfl
theorem eq (k : Nat) : ∀ a, aexec (env k) (L k) (codeOf Try.f15) (begSt [.ro (.sl 4 .bool)] a) (finK (env k) Try.f15 [.ro (.sl 4 .bool)] [.own (.sl 4 .bool)]) = (entry k).fn a := by intro a; kernel_rfl
theorem run3 (k : Nat) (K : AExit → St → Option R) : ∀ n v, aloop (aexec (env k) (L k) ((findLoop 3 (codeOf Try.f15)).getD .skip)) (normSt [(0, .asis), (3, .asis), (4, .asis)]) (normSt [(3, .asis)]) K n (sh3.enc (un3 v)) = l3 (R := R) k n v (fun y0 => K (.exit 0) (osh3kx0.enc (((), ()), (y0, ())))) := loop_eq (fun n v => aloop (aexec (env k) (L k) ((findLoop 3 (codeOf Try.f15)).getD .skip)) (normSt [(0, .asis), (3, .asis), (4, .asis)]) (normSt [(3, .asis)]) K n (sh3.enc (un3 v))) (fun n v => l3 (R := R) k n v (fun y0 => K (.exit 0) (osh3kx0.enc (((), ()), (y0, ()))))) (fun X v => s3 (R := R) k X (fun y0 => K (.exit 0) (osh3kx0.enc (((), ()), (y0, ())))) v) (fun _ => rfl) (fun n v => step3 k n K v) (fun n v => rfl)
theorem loops (k : Nat) : LoopsOk (env k) (L k) (codeOf Try.f15) := by
  intro c an hc han s K r h
  unfold L at h
  by_cases q3 : firstRegion c = 3
  · have h1 := key_eq q3 h
    rw [q3] at hc han
    have e2 : an = ⟨[(0, .asis), (3, .asis), (4, .asis)], [(3, .asis)]⟩ := (Option.some.inj (show some _ = some an from han)).symm
    have e1 : c = (findLoop 3 (codeOf Try.f15)).getD .skip := by rw [hc]; rfl
    cases hd : sh3.dec s with
    | none => rw [hd] at h1; cases h1
    | some v =>
      rw [hd] at h1
      refine ⟨k, ?_⟩
      rw [e1, e2, Shape.dec_enc _ _ _ hd]
      exact (run3 k K k (fl3 v)).trans h1
  have h := not_key q3 h
  cases h
theorem fit (k : Nat) : codeFit (env k) (codeOf Try.f15) = true := by kernel_rfl
theorem lps : (loopsIn (codeOf Try.f15)).map (fun d => findLoop (firstRegion d) (codeOf Try.f15)) = (loopsIn (codeOf Try.f15)).map some := by kernel_rfl
theorem hf : Try.prog.funcs[15]? = some Try.f15 := by kernel_rfl
theorem hb : Try.f15.body = some (codeOf Try.f15) := by kernel_rfl
theorem hn : (Try.f15.name == "runtime.NumGoroutine") = false := by kernel_rfl
theorem sound (k : Nat) : Sound Try.prog 15 (entry k) := func_sound (E := env k) (by kernel_rfl) (by kernel_rfl) (by kernel_rfl) tbl_nil hf hb hn (fit k) (loops_all lps) (loops k) (eq k)
end laws_toBoolS

namespace laws_eqInt64S
def entry (k : Nat) : Entry := ⟨[.ro (.sl 2 (.int .i64)), .ro (.sl 2 (.int .i64))], [.own .bool], fun (a0, (a1, _)) => f k a0 a1⟩
def env (k : Nat) : Env := ⟨Try.prog, 26, AM.look none [], AM.look none [(4, some ⟨[(0, .asis), (1, .asis), (5, .asis)], [(4, .asis)]⟩)]⟩
abbrev R := Res [.own .bool] × Outs [.ro (.sl 2 (.int .i64)), .ro (.sl 2 (.int .i64))]
def sh4 : Shape := ⟨[(0, .val (.sl 2 (.int .i64))), (1, .val (.sl 2 (.int .i64))), (5, .val (.int .i64))], [], 0, []⟩
def osh4kx0 : Shape := ⟨[(4, .undef)], [], 0, []⟩
def osh4kr : Shape := ⟨[(4, .val .bool)], [], 0, []⟩
def un4 : (List Int) × (List Int) × Int → sh4.V := fun (x0, x1, x5) => ((x0, (x1, (x5, ()))), ())
def fl4 : sh4.V → (List Int) × (List Int) × Int := fun ((x0, (x1, (x5, _))), _) => (x0, x1, x5)
def L (k : Nat) (q : Nat) (s : St) (K : AExit → St → Option R) : Option R := bif Nat.beq q 4 then (match sh4.dec s with | some v => l4 (R := R) k k (fl4 v) (fun (_ : Unit) => K (.exit 0) (osh4kx0.enc (((), ()), ()))) (fun x4 => K .ret (osh4kr.enc ((x4, ()), ()))) | none => none) else (none)
theorem step4 (k n : Nat) (K : AExit → St → Option R) : ∀ v, aloop (aexec (env k) (L k) ((findLoop 4 (codeOf Try.f17)).getD .skip)) (normSt [(0, .asis), (1, .asis), (5, .asis)]) (normSt [(4, .asis)]) K (n + 1) (sh4.enc (un4 v)) = s4 (R := R) k (fun w => aloop (aexec (env k) (L k) ((findLoop 4 (codeOf Try.f17)).getD .skip)) (normSt [(0, .asis), (1, .asis), (5, .asis)]) (normSt [(4, .asis)]) K n (sh4.enc (un4 w))) (fun (_ : Unit) => K (.exit 0) (osh4kx0.enc (((), ()), ()))) (fun x4 => K .ret (osh4kr.enc ((x4, ()), ()))) v := by intro v; kernel_rfl
theorem eq (k : Nat) : ∀ a, aexec (env k) (L k) (codeOf Try.f17) (begSt [.ro (.sl 2 (.int .i64)), .ro (.sl 2 (.int .i64))] a) (finK (env k) Try.f17 [.ro (.sl 2 (.int .i64)), .ro (.sl 2 (.int .i64))] [.own .bool]) = (entry k).fn a := by intro a; kernel_rfl
theorem run4 (k : Nat) (K : AExit → St → Option R) : ∀ n v, aloop (aexec (env k) (L k) ((findLoop 4 (codeOf Try.f17)).getD .skip)) (normSt [(0, .asis), (1, .asis), (5, .asis)]) (normSt [(4, .asis)]) K n (sh4.enc (un4 v)) = l4 (R := R) k n v (fun (_ : Unit) => K (.exit 0) (osh4kx0.enc (((), ()), ()))) (fun x4 => K .ret (osh4kr.enc ((x4, ()), ()))) := loop_eq (fun n v => aloop (aexec (env k) (L k) ((findLoop 4 (codeOf Try.f17)).getD .skip)) (normSt [(0, .asis), (1, .asis), (5, .asis)]) (normSt [(4, .asis)]) K n (sh4.enc (un4 v))) (fun n v => l4 (R := R) k n v (fun (_ : Unit) => K (.exit 0) (osh4kx0.enc (((), ()), ()))) (fun x4 => K .ret (osh4kr.enc ((x4, ()), ())))) (fun X v => s4 (R := R) k X (fun (_ : Unit) => K (.exit 0) (osh4kx0.enc (((), ()), ()))) (fun x4 => K .ret (osh4kr.enc ((x4, ()), ()))) v) (fun _ => rfl) (fun n v => step4 k n K v) (fun n v => rfl)
theorem loops (k : Nat) : LoopsOk (env k) (L k) (codeOf Try.f17) := by
  intro c an hc han s K r h
  unfold L at h
  by_cases q4 : firstRegion c = 4
  · have h1 := key_eq q4 h
    rw [q4] at hc han
    have e2 : an = ⟨[(0, .asis), (1, .asis), (5, .asis)], [(4, .asis)]⟩ := (Option.some.inj (show some _ = some an from han)).symm
    have e1 : c = (findLoop 4 (codeOf Try.f17)).getD .skip := by rw [hc]; rfl
    cases hd : sh4.dec s with
    | none => rw [hd] at h1; cases h1
    | some v =>
      rw [hd] at h1
      refine ⟨k, ?_⟩
      rw [e1, e2, Shape.dec_enc _ _ _ hd]
      exact (run4 k K k (fl4 v)).trans h1
  have h := not_key q4 h
  cases h
theorem fit (k : Nat) : codeFit (env k) (codeOf Try.f17) = true := by kernel_rfl
theorem lps : (loopsIn (codeOf Try.f17)).map (fun d => findLoop (firstRegion d) (codeOf Try.f17)) = (loopsIn (codeOf Try.f17)).map some := by kernel_rfl
theorem hf : Try.prog.funcs[17]? = some Try.f17 := by kernel_rfl
theorem hb : Try.f17.body = some (codeOf Try.f17) := by kernel_rfl
theorem hn : (Try.f17.name == "runtime.NumGoroutine") = false := by kernel_rfl
theorem sound (k : Nat) : Sound Try.prog 17 (entry k) := func_sound (E := env k) (by kernel_rfl) (by kernel_rfl) (by kernel_rfl) tbl_nil hf hb hn (fit k) (loops_all lps) (loops k) (eq k)
end laws_eqInt64S

namespace laws_eqBoolS
def entry (k : Nat) : Entry := ⟨[.ro (.sl 4 .bool), .ro (.sl 4 .bool)], [.own .bool], fun (a0, (a1, _)) => f k a0 a1⟩
def env (k : Nat) : Env := ⟨Try.prog, 26, AM.look none [], AM.look none [(4, some ⟨[(0, .asis), (1, .asis), (5, .asis)], [(4, .asis)]⟩)]⟩
abbrev R := Res [.own .bool] × Outs [.ro (.sl 4 .bool), .ro (.sl 4 .bool)]
def sh4 : Shape := ⟨[(0, .val (.sl 4 .bool)), (1, .val (.sl 4 .bool)), (5, .val (.int .i64))], [], 0, []⟩
def osh4kx0 : Shape := ⟨[(4, .undef)], [], 0, []⟩
def osh4kr : Shape := ⟨[(4, .val .bool)], [], 0, []⟩
def un4 : (List Bool) × (List Bool) × Int → sh4.V := fun (x0, x1, x5) => ((x0, (x1, (x5, ()))), ())
def fl4 : sh4.V → (List Bool) × (List Bool) × Int := fun ((x0, (x1, (x5, _))), _) => (x0, x1, x5)
def L (k : Nat) (q : Nat) (s : St) (K : AExit → St → Option R) : Option R := bif Nat.beq q 4 then (match sh4.dec s with | some v => l4 (R := R) k k (fl4 v) (fun (_ : Unit) => K (.exit 0) (osh4kx0.enc (((), ()), ()))) (fun x4 => K .ret (osh4kr.enc ((x4, ()), ()))) | none => none) else (none)
theorem step4 (k n : Nat) (K : AExit → St → Option R) : ∀ v, aloop (aexec (env k) (L k) ((findLoop 4 (codeOf Try.f18)).getD .skip)) (normSt [(0, .asis), (1, .asis), (5, .asis)]) (normSt [(4, .asis)]) K (n + 1) (sh4.enc (un4 v)) = s4 (R := R) k (fun w => aloop (aexec (env k) (L k) ((findLoop 4 (codeOf Try.f18)).getD .skip)) (normSt [(0, .asis), (1, .asis), (5, .asis)]) (normSt [(4, .asis)]) K n (sh4.enc (un4 w))) (fun (_ : Unit) => K (.exit 0) (osh4kx0.enc (((), ()), ()))) (fun x4 => K .ret (osh4kr.enc ((x4, ()), ()))) v := by intro v; kernel_rfl
theorem eq (k : Nat) : ∀ a, aexec (env k) (L k) (codeOf Try.f18) (begSt [.ro (.sl 4 .bool), .ro (.sl 4 .bool)] a) (finK (env k) Try.f18 [.ro (.sl 4 .bool), .ro (.sl 4 .bool)] [.own .bool]) = (entry k).fn a := by intro a; kernel_rfl
theorem run4 (k : Nat) (K : AExit → St → Option R) : ∀ n v, aloop (aexec (env k) (L k) ((findLoop 4 (codeOf Try.f18)).getD .skip)) (normSt [(0, .asis), (1, .asis), (5, .asis)]) (normSt [(4, .asis)]) K n (sh4.enc (un4 v)) = l4 (R := R) k n v (fun (_ : Unit) => K (.exit 0) (osh4kx0.enc (((), ()), ()))) (fun x4 => K .ret (osh4kr.enc ((x4, ()), ()))) := loop_eq (fun n v => aloop (aexec (env k) (L k) ((findLoop 4 (codeOf Try.f18)).getD .skip)) (normSt [(0, .asis), (1, .asis), (5, .asis)]) (normSt [(4, .asis)]) K n (sh4.enc (un4 v))) (fun n v => l4 (R := R) k n v (fun (_ : Unit) => K (.exit 0) (osh4kx0.enc (((), ()), ()))) (fun x4 => K .ret (osh4kr.enc ((x4, ()), ())))) (fun X v => s4 (R := R) k X (fun (_ : Unit) => K (.exit 0) (osh4kx0.enc (((), ()), ()))) (fun x4 => K .ret (osh4kr.enc ((x4, ()), ()))) v) (fun _ => rfl) (fun n v => step4 k n K v) (fun n v => rfl)
theorem loops (k : Nat) : LoopsOk (env k) (L k) (codeOf Try.f18) := by
  intro c an hc han s K r h
  unfold L at h
  by_cases q4 : firstRegion c = 4
  · have h1 := key_eq q4 h
    rw [q4] at hc han
    have e2 : an = ⟨[(0, .asis), (1, .asis), (5, .asis)], [(4, .asis)]⟩ := (Option.some.inj (show some _ = some an from han)).symm
    have e1 : c = (findLoop 4 (codeOf Try.f18)).getD .skip := by rw [hc]; rfl
    cases hd : sh4.dec s with
    | none => rw [hd] at h1; cases h1
    | some v =>
      rw [hd] at h1
      refine ⟨k, ?_⟩
      rw [e1, e2, Shape.dec_enc _ _ _ hd]
      exact (run4 k K k (fl4 v)).trans h1
  have h := not_key q4 h
  cases h
theorem fit (k : Nat) : codeFit (env k) (codeOf Try.f18) = true := by kernel_rfl
theorem lps : (loopsIn (codeOf Try.f18)).map (fun d => findLoop (firstRegion d) (codeOf Try.f18)) = (loopsIn (codeOf Try.f18)).map some := by kernel_rfl
theorem hf : Try.prog.funcs[18]? = some Try.f18 := by kernel_rfl
theorem hb : Try.f18.body = some (codeOf Try.f18) := by kernel_rfl
theorem hn : (Try.f18.name == "runtime.NumGoroutine") = false := by kernel_rfl
theorem sound (k : Nat) : Sound Try.prog 18 (entry k) := func_sound (E := env k) (by kernel_rfl) (by kernel_rfl) (by kernel_rfl) tbl_nil hf hb hn (fit k) (loops_all lps) (loops k) (eq k)
end laws_eqBoolS

namespace laws_markInt64S
def entry (k : Nat) : Entry := ⟨[.io 2 (.int .i64), .ro (.int .i64)], [.own (.int .i64)], fun (a0, (a1, _)) => f k a0 a1⟩
def env (k : Nat) : Env := ⟨Try.prog, 19, AM.look none [], AM.look none [(2, some ⟨[(0, .asis), (1, .asis), (5, .asis)], [(1, .asis)]⟩)]⟩
abbrev R := Res [.own (.int .i64)] × Outs [.io 2 (.int .i64), .ro (.int .i64)]
def sh2 : Shape := ⟨[(0, .ref 0), (1, .val (.int .i64)), (5, .val (.int .i64))], [(0, .row 2 (.int .i64))], 1, [0]⟩
def osh2kx0 : Shape := ⟨[(1, .val (.int .i64))], [(0, .row 2 (.int .i64))], 1, [0]⟩
def un2 : Int × Int × (List Int) → sh2.V := fun (x1, x5, y0) => (((), (x1, (x5, ()))), (y0, ()))
def fl2 : sh2.V → Int × Int × (List Int) := fun ((_, (x1, (x5, _))), (y0, _)) => (x1, x5, y0)
def L (k : Nat) (q : Nat) (s : St) (K : AExit → St → Option R) : Option R := bif Nat.beq q 2 then (match sh2.dec s with | some v => l2 (R := R) k k (fl2 v) (fun (x1, y0) => K (.exit 0) (osh2kx0.enc ((x1, ()), (y0, ())))) | none => none) else (none)
theorem step2 (k n : Nat) (K : AExit → St → Option R) : ∀ v, aloop (aexec (env k) (L k) ((findLoop 2 (codeOf Try.f21)).getD .skip)) (normSt [(0, .asis), (1, .asis), (5, .asis)]) (normSt [(1, .asis)]) K (n + 1) (sh2.enc (un2 v)) = s2 (R := R) k (fun w => aloop (aexec (env k) (L k) ((findLoop 2 (codeOf Try.f21)).getD .skip)) (normSt [(0, .asis), (1, .asis), (5, .asis)]) (normSt [(1, .asis)]) K n (sh2.enc (un2 w))) (fun (x1, y0) => K (.exit 0) (osh2kx0.enc ((x1, ()), (y0, ())))) v := by intro v; kernel_rfl
theorem eq (k : Nat) : ∀ a, aexec (env k) (L k) (codeOf Try.f21) (begSt [.io 2 (.int .i64), .ro (.int .i64)] a) (finK (env k) Try.f21 [.io 2 (.int .i64), .ro (.int .i64)] [.own (.int .i64)]) = (entry k).fn a := by intro a; kernel_rfl
theorem run2 (k : Nat) (K : AExit → St → Option R) : ∀ n v, aloop (aexec (env k) (L k) ((findLoop 2 (codeOf Try.f21)).getD .skip)) (normSt [(0, .asis), (1, .asis), (5, .asis)]) (normSt [(1, .asis)]) K n (sh2.enc (un2 v)) = l2 (R := R) k n v (fun (x1, y0) => K (.exit 0) (osh2kx0.enc ((x1, ()), (y0, ())))) := loop_eq (fun n v => aloop (aexec (env k) (L k) ((findLoop 2 (codeOf Try.f21)).getD .skip)) (normSt [(0, .asis), (1, .asis), (5, .asis)]) (normSt [(1, .asis)]) K n (sh2.enc (un2 v))) (fun n v => l2 (R := R) k n v (fun (x1, y0) => K (.exit 0) (osh2kx0.enc ((x1, ()), (y0, ()))))) (fun X v => s2 (R := R) k X (fun (x1, y0) => K (.exit 0) (osh2kx0.enc ((x1, ()), (y0, ())))) v) (fun _ => rfl) (fun n v => step2 k n K v) (fun n v => rfl)
theorem loops (k : Nat) : LoopsOk (env k) (L k) (codeOf Try.f21) := by
  intro c an hc han s K r h
  unfold L at h
  by_cases q2 : firstRegion c = 2
  · have h1 := key_eq q2 h
    rw [q2] at hc han
    have e2 : an = ⟨[(0, .asis), (1, .asis), (5, .asis)], [(1, .asis)]⟩ := (Option.some.inj (show some _ = some an from han)).symm
    have e1 : c = (findLoop 2 (codeOf Try.f21)).getD .skip := by rw [hc]; rfl
    cases hd : sh2.dec s with
    | none => rw [hd] at h1; cases h1
    | some v =>
      rw [hd] at h1
      refine ⟨k, ?_⟩
      rw [e1, e2, Shape.dec_enc _ _ _ hd]
      exact (run2 k K k (fl2 v)).trans h1
  have h := not_key q2 h
  cases h
theorem fit (k : Nat) : codeFit (env k) (codeOf Try.f21) = true := by kernel_rfl
theorem lps : (loopsIn (codeOf Try.f21)).map (fun d => findLoop (firstRegion d) (codeOf Try.f21)) = (loopsIn (codeOf Try.f21)).map some := by kernel_rfl
theorem hf : Try.prog.funcs[21]? = some Try.f21 := by kernel_rfl
theorem hb : Try.f21.body = some (codeOf Try.f21) := by kernel_rfl
theorem hn : (Try.f21.name == "runtime.NumGoroutine") = false := by kernel_rfl
theorem sound (k : Nat) : Sound Try.prog 21 (entry k) := func_sound (E := env k) (by kernel_rfl) (by kernel_rfl) (by kernel_rfl) tbl_nil hf hb hn (fit k) (loops_all lps) (loops k) (eq k)
end laws_markInt64S

namespace laws_heldInt64S
def entry (k : Nat) : Entry := ⟨[.ro (.sl 2 (.int .i64)), .ro (.int .i64)], [.own (.int .i64)], fun (a0, (a1, _)) => f k a0 a1⟩
def env (k : Nat) : Env := ⟨Try.prog, 21, AM.look none [], AM.look none [(2, some ⟨[(0, .asis), (1, .asis), (5, .asis)], [(1, .asis), (4, .asis)]⟩)]⟩
abbrev R := Res [.own (.int .i64)] × Outs [.ro (.sl 2 (.int .i64)), .ro (.int .i64)]
def sh2 : Shape := ⟨[(0, .val (.sl 2 (.int .i64))), (1, .val (.int .i64)), (5, .val (.int .i64))], [], 0, []⟩
def osh2kx0 : Shape := ⟨[(1, .val (.int .i64)), (4, .undef)], [], 0, []⟩
def osh2kr : Shape := ⟨[(1, .val (.int .i64)), (4, .val (.int .i64))], [], 0, []⟩
def un2 : (List Int) × Int × Int → sh2.V := fun (x0, x1, x5) => ((x0, (x1, (x5, ()))), ())
def fl2 : sh2.V → (List Int) × Int × Int := fun ((x0, (x1, (x5, _))), _) => (x0, x1, x5)
def L (k : Nat) (q : Nat) (s : St) (K : AExit → St → Option R) : Option R := bif Nat.beq q 2 then (match sh2.dec s with | some v => l2 (R := R) k k (fl2 v) (fun x1 => K (.exit 0) (osh2kx0.enc ((x1, ((), ())), ()))) (fun (x1, x4) => K .ret (osh2kr.enc ((x1, (x4, ())), ()))) | none => none) else (none)
theorem step2 (k n : Nat) (K : AExit → St → Option R) : ∀ v, aloop (aexec (env k) (L k) ((findLoop 2 (codeOf Try.f22)).getD .skip)) (normSt [(0, .asis), (1, .asis), (5, .asis)]) (normSt [(1, .asis), (4, .asis)]) K (n + 1) (sh2.enc (un2 v)) = s2 (R := R) k (fun w => aloop (aexec (env k) (L k) ((findLoop 2 (codeOf Try.f22)).getD .skip)) (normSt [(0, .asis), (1, .asis), (5, .asis)]) (normSt [(1, .asis), (4, .asis)]) K n (sh2.enc (un2 w))) (fun x1 => K (.exit 0) (osh2kx0.enc ((x1, ((), ())), ()))) (fun (x1, x4) => K .ret (osh2kr.enc ((x1, (x4, ())), ()))) v := by intro v; kernel_rfl
theorem eq (k : Nat) : ∀ a, aexec (env k) (L k) (codeOf Try.f22) (begSt [.ro (.sl 2 (.int .i64)), .ro (.int .i64)] a) (finK (env k) Try.f22 [.ro (.sl 2 (.int .i64)), .ro (.int .i64)] [.own (.int .i64)]) = (entry k).fn a := by intro a; kernel_rfl
theorem run2 (k : Nat) (K : AExit → St → Option R) : ∀ n v, aloop (aexec (env k) (L k) ((findLoop 2 (codeOf Try.f22)).getD .skip)) (normSt [(0, .asis), (1, .asis), (5, .asis)]) (normSt [(1, .asis), (4, .asis)]) K n (sh2.enc (un2 v)) = l2 (R := R) k n v (fun x1 => K (.exit 0) (osh2kx0.enc ((x1, ((), ())), ()))) (fun (x1, x4) => K .ret (osh2kr.enc ((x1, (x4, ())), ()))) := loop_eq (fun n v => aloop (aexec (env k) (L k) ((findLoop 2 (codeOf Try.f22)).getD .skip)) (normSt [(0, .asis), (1, .asis), (5, .asis)]) (normSt [(1, .asis), (4, .asis)]) K n (sh2.enc (un2 v))) (fun n v => l2 (R := R) k n v (fun x1 => K (.exit 0) (osh2kx0.enc ((x1, ((), ())), ()))) (fun (x1, x4) => K .ret (osh2kr.enc ((x1, (x4, ())), ())))) (fun X v => s2 (R := R) k X (fun x1 => K (.exit 0) (osh2kx0.enc ((x1, ((), ())), ()))) (fun (x1, x4) => K .ret (osh2kr.enc ((x1, (x4, ())), ()))) v) (fun _ => rfl) (fun n v => step2 k n K v) (fun n v => rfl)
theorem loops (k : Nat) : LoopsOk (env k) (L k) (codeOf Try.f22) := by
  intro c an hc han s K r h
  unfold L at h
  by_cases q2 : firstRegion c = 2
  · have h1 := key_eq q2 h
    rw [q2] at hc han
    have e2 : an = ⟨[(0, .asis), (1, .asis), (5, .asis)], [(1, .asis), (4, .asis)]⟩ := (Option.some.inj (show some _ = some an from han)).symm
    have e1 : c = (findLoop 2 (codeOf Try.f22)).getD .skip := by rw [hc]; rfl
    cases hd : sh2.dec s with
    | none => rw [hd] at h1; cases h1
    | some v =>
      rw [hd] at h1
      refine ⟨k, ?_⟩
      rw [e1, e2, Shape.dec_enc _ _ _ hd]
      exact (run2 k K k (fl2 v)).trans h1
  have h := not_key q2 h
  cases h
theorem fit (k : Nat) : codeFit (env k) (codeOf Try.f22) = true := by kernel_rfl
theorem lps : (loopsIn (codeOf Try.f22)).map (fun d => findLoop (firstRegion d) (codeOf Try.f22)) = (loopsIn (codeOf Try.f22)).map some := by kernel_rfl
theorem hf : Try.prog.funcs[22]? = some Try.f22 := by kernel_rfl
theorem hb : Try.f22.body = some (codeOf Try.f22) := by kernel_rfl
theorem hn : (Try.f22.name == "runtime.NumGoroutine") = false := by kernel_rfl
theorem sound (k : Nat) : Sound Try.prog 22 (entry k) := func_sound (E := env k) (by kernel_rfl) (by kernel_rfl) (by kernel_rfl) tbl_nil hf hb hn (fit k) (loops_all lps) (loops k) (eq k)
end laws_heldInt64S

namespace spec_l01In
def entry (k : Nat) : Entry := ⟨[.ro (.int .i64), .ro (.int .i64), .ro (.int .i64)], [.own .bool], fun (a0, (a1, (a2, _))) => f k a0 a1 a2⟩
def env (k : Nat) : Env := ⟨Try.prog, 15, AM.look none [], AM.look none []⟩
abbrev R := Res [.own .bool] × Outs [.ro (.int .i64), .ro (.int .i64), .ro (.int .i64)]
def L (k : Nat) (q : Nat) (s : St) (K : AExit → St → Option R) : Option R := none
theorem eq (k : Nat) : ∀ a, aexec (env k) (L k) (codeOf Try.f47) (begSt [.ro (.int .i64), .ro (.int .i64), .ro (.int .i64)] a) (finK (env k) Try.f47 [.ro (.int .i64), .ro (.int .i64), .ro (.int .i64)] [.own .bool]) = (entry k).fn a := by intro a; kernel_rfl
theorem loops (k : Nat) : LoopsOk (env k) (L k) (codeOf Try.f47) := by
  intro c an hc han s K r h
  unfold L at h
  cases h
theorem fit (k : Nat) : codeFit (env k) (codeOf Try.f47) = true := by kernel_rfl
theorem lps : (loopsIn (codeOf Try.f47)).map (fun d => findLoop (firstRegion d) (codeOf Try.f47)) = (loopsIn (codeOf Try.f47)).map some := by kernel_rfl
theorem hf : Try.prog.funcs[47]? = some Try.f47 := by kernel_rfl
theorem hb : Try.f47.body = some (codeOf Try.f47) := by kernel_rfl
theorem hn : (Try.f47.name == "runtime.NumGoroutine") = false := by kernel_rfl
theorem sound (k : Nat) : Sound Try.prog 47 (entry k) := func_sound (E := env k) (by kernel_rfl) (by kernel_rfl) (by kernel_rfl) tbl_nil hf hb hn (fit k) (loops_all lps) (loops k) (eq k)
end spec_l01In

namespace spec_l10Chips
def entry (k : Nat) : Entry := ⟨[.ro (.sl 2 (.int .i64)), .ro (.int .i64)], [.own .bool], fun (a0, (a1, _)) => f k a0 a1⟩
def env (k : Nat) : Env := ⟨Try.prog, 22, AM.look none [(47, some (spec_l01In.entry k))], AM.look none [(2, some ⟨[(0, .asis), (1, .asis), (5, .asis)], [(0, .asis), (1, .asis), (4, .asis)]⟩)]⟩
abbrev R := Res [.own .bool] × Outs [.ro (.sl 2 (.int .i64)), .ro (.int .i64)]
def sh2 : Shape := ⟨[(0, .val (.sl 2 (.int .i64))), (1, .val (.int .i64)), (5, .val (.int .i64))], [], 0, []⟩
def osh2kx0 : Shape := ⟨[(0, .val (.sl 2 (.int .i64))), (1, .val (.int .i64)), (4, .undef)], [], 0, []⟩
def osh2kr : Shape := ⟨[(0, .val (.sl 2 (.int .i64))), (1, .val (.int .i64)), (4, .val .bool)], [], 0, []⟩
def un2 : (List Int) × Int × Int → sh2.V := fun (x0, x1, x5) => ((x0, (x1, (x5, ()))), ())
def fl2 : sh2.V → (List Int) × Int × Int := fun ((x0, (x1, (x5, _))), _) => (x0, x1, x5)
def L (k : Nat) (q : Nat) (s : St) (K : AExit → St → Option R) : Option R := bif Nat.beq q 2 then (match sh2.dec s with | some v => l2 (R := R) k k (fl2 v) (fun (x0, x1) => K (.exit 0) (osh2kx0.enc ((x0, (x1, ((), ()))), ()))) (fun (x0, x1, x4) => K .ret (osh2kr.enc ((x0, (x1, (x4, ()))), ()))) | none => none) else (none)
theorem step2 (k n : Nat) (K : AExit → St → Option R) : ∀ v, aloop (aexec (env k) (L k) ((findLoop 2 (codeOf Try.f48)).getD .skip)) (normSt [(0, .asis), (1, .asis), (5, .asis)]) (normSt [(0, .asis), (1, .asis), (4, .asis)]) K (n + 1) (sh2.enc (un2 v)) = s2 (R := R) k (fun w => aloop (aexec (env k) (L k) ((findLoop 2 (codeOf Try.f48)).getD .skip)) (normSt [(0, .asis), (1, .asis), (5, .asis)]) (normSt [(0, .asis), (1, .asis), (4, .asis)]) K n (sh2.enc (un2 w))) (fun (x0, x1) => K (.exit 0) (osh2kx0.enc ((x0, (x1, ((), ()))), ()))) (fun (x0, x1, x4) => K .ret (osh2kr.enc ((x0, (x1, (x4, ()))), ()))) v := by intro v; kernel_rfl
theorem eq (k : Nat) : ∀ a, aexec (env k) (L k) (codeOf Try.f48) (begSt [.ro (.sl 2 (.int .i64)), .ro (.int .i64)] a) (finK (env k) Try.f48 [.ro (.sl 2 (.int .i64)), .ro (.int .i64)] [.own .bool]) = (entry k).fn a := by intro a; kernel_rfl
theorem run2 (k : Nat) (K : AExit → St → Option R) : ∀ n v, aloop (aexec (env k) (L k) ((findLoop 2 (codeOf Try.f48)).getD .skip)) (normSt [(0, .asis), (1, .asis), (5, .asis)]) (normSt [(0, .asis), (1, .asis), (4, .asis)]) K n (sh2.enc (un2 v)) = l2 (R := R) k n v (fun (x0, x1) => K (.exit 0) (osh2kx0.enc ((x0, (x1, ((), ()))), ()))) (fun (x0, x1, x4) => K .ret (osh2kr.enc ((x0, (x1, (x4, ()))), ()))) := loop_eq (fun n v => aloop (aexec (env k) (L k) ((findLoop 2 (codeOf Try.f48)).getD .skip)) (normSt [(0, .asis), (1, .asis), (5, .asis)]) (normSt [(0, .asis), (1, .asis), (4, .asis)]) K n (sh2.enc (un2 v))) (fun n v => l2 (R := R) k n v (fun (x0, x1) => K (.exit 0) (osh2kx0.enc ((x0, (x1, ((), ()))), ()))) (fun (x0, x1, x4) => K .ret (osh2kr.enc ((x0, (x1, (x4, ()))), ())))) (fun X v => s2 (R := R) k X (fun (x0, x1) => K (.exit 0) (osh2kx0.enc ((x0, (x1, ((), ()))), ()))) (fun (x0, x1, x4) => K .ret (osh2kr.enc ((x0, (x1, (x4, ()))), ()))) v) (fun _ => rfl) (fun n v => step2 k n K v) (fun n v => rfl)
theorem loops (k : Nat) : LoopsOk (env k) (L k) (codeOf Try.f48) := by
  intro c an hc han s K r h
  unfold L at h
  by_cases q2 : firstRegion c = 2
  · have h1 := key_eq q2 h
    rw [q2] at hc han
    have e2 : an = ⟨[(0, .asis), (1, .asis), (5, .asis)], [(0, .asis), (1, .asis), (4, .asis)]⟩ := (Option.some.inj (show some _ = some an from han)).symm
    have e1 : c = (findLoop 2 (codeOf Try.f48)).getD .skip := by rw [hc]; rfl
    cases hd : sh2.dec s with
    | none => rw [hd] at h1; cases h1
    | some v =>
      rw [hd] at h1
      refine ⟨k, ?_⟩
      rw [e1, e2, Shape.dec_enc _ _ _ hd]
      exact (run2 k K k (fl2 v)).trans h1
  have h := not_key q2 h
  cases h
theorem fit (k : Nat) : codeFit (env k) (codeOf Try.f48) = true := by kernel_rfl
theorem lps : (loopsIn (codeOf Try.f48)).map (fun d => findLoop (firstRegion d) (codeOf Try.f48)) = (loopsIn (codeOf Try.f48)).map some := by kernel_rfl
theorem hf : Try.prog.funcs[48]? = some Try.f48 := by kernel_rfl
theorem hb : Try.f48.body = some (codeOf Try.f48) := by kernel_rfl
theorem hn : (Try.f48.name == "runtime.NumGoroutine") = false := by kernel_rfl
theorem sound (k : Nat) : Sound Try.prog 48 (entry k) := func_sound (E := env k) (by kernel_rfl) (by kernel_rfl) (by kernel_rfl) (tbl_cons (spec_l01In.sound k) tbl_nil) hf hb hn (fit k) (loops_all lps) (loops k) (eq k)
end spec_l10Chips

namespace spec_ArePayments
def entry (k : Nat) : Entry := ⟨[.ro (.sl 2 (.int .i64)), .ro (.sl 4 .bool)], [.own .bool], fun (a0, (a1, _)) => f k a0 a1⟩
def env (k : Nat) : Env := ⟨Try.prog, 35, AM.look none [(47, some (spec_l01In.entry k)), (48, some (spec_l10Chips.entry k))], AM.look none [(4, some ⟨[(0, .asis), (1, .asis), (5, .asis)], [(4, .asis)]⟩)]⟩
abbrev R := Res [.own .bool] × Outs [.ro (.sl 2 (.int .i64)), .ro (.sl 4 .bool)]
def sh4 : Shape := ⟨[(0, .val (.sl 2 (.int .i64))), (1, .val (.sl 4 .bool)), (5, .val (.int .i64))], [], 0, []⟩
def osh4kx0 : Shape := ⟨[(4, .undef)], [], 0, []⟩
def osh4kr : Shape := ⟨[(4, .val .bool)], [], 0, []⟩
def un4 : (List Int) × (List Bool) × Int → sh4.V := fun (x0, x1, x5) => ((x0, (x1, (x5, ()))), ())
def fl4 : sh4.V → (List Int) × (List Bool) × Int := fun ((x0, (x1, (x5, _))), _) => (x0, x1, x5)
def L (k : Nat) (q : Nat) (s : St) (K : AExit → St → Option R) : Option R := bif Nat.beq q 4 then (match sh4.dec s with | some v => l4 (R := R) k k (fl4 v) (fun (_ : Unit) => K (.exit 0) (osh4kx0.enc (((), ()), ()))) (fun x4 => K .ret (osh4kr.enc ((x4, ()), ()))) | none => none) else (none)
theorem step4 (k n : Nat) (K : AExit → St → Option R) : ∀ v, aloop (aexec (env k) (L k) ((findLoop 4 (codeOf Try.f13)).getD .skip)) (normSt [(0, .asis), (1, .asis), (5, .asis)]) (normSt [(4, .asis)]) K (n + 1) (sh4.enc (un4 v)) = s4 (R := R) k (fun w => aloop (aexec (env k) (L k) ((findLoop 4 (codeOf Try.f13)).getD .skip)) (normSt [(0, .asis), (1, .asis), (5, .asis)]) (normSt [(4, .asis)]) K n (sh4.enc (un4 w))) (fun (_ : Unit) => K (.exit 0) (osh4kx0.enc (((), ()), ()))) (fun x4 => K .ret (osh4kr.enc ((x4, ()), ()))) v := by intro v; kernel_rfl
theorem eq (k : Nat) : ∀ a, aexec (env k) (L k) (codeOf Try.f13) (begSt [.ro (.sl 2 (.int .i64)), .ro (.sl 4 .bool)] a) (finK (env k) Try.f13 [.ro (.sl 2 (.int .i64)), .ro (.sl 4 .bool)] [.own .bool]) = (entry k).fn a := by intro a; kernel_rfl
theorem run4 (k : Nat) (K : AExit → St → Option R) : ∀ n v, aloop (aexec (env k) (L k) ((findLoop 4 (codeOf Try.f13)).getD .skip)) (normSt [(0, .asis), (1, .asis), (5, .asis)]) (normSt [(4, .asis)]) K n (sh4.enc (un4 v)) = l4 (R := R) k n v (fun (_ : Unit) => K (.exit 0) (osh4kx0.enc (((), ()), ()))) (fun x4 => K .ret (osh4kr.enc ((x4, ()), ()))) := loop_eq (fun n v => aloop (aexec (env k) (L k) ((findLoop 4 (codeOf Try.f13)).getD .skip)) (normSt [(0, .asis), (1, .asis), (5, .asis)]) (normSt [(4, .asis)]) K n (sh4.enc (un4 v))) (fun n v => l4 (R := R) k n v (fun (_ : Unit) => K (.exit 0) (osh4kx0.enc (((), ()), ()))) (fun x4 => K .ret (osh4kr.enc ((x4, ()), ())))) (fun X v => s4 (R := R) k X (fun (_ : Unit) => K (.exit 0) (osh4kx0.enc (((), ()), ()))) (fun x4 => K .ret (osh4kr.enc ((x4, ()), ()))) v) (fun _ => rfl) (fun n v => step4 k n K v) (fun n v => rfl)
theorem loops (k : Nat) : LoopsOk (env k) (L k) (codeOf Try.f13) := by
  intro c an hc han s K r h
  unfold L at h
  by_cases q4 : firstRegion c = 4
  · have h1 := key_eq q4 h
    rw [q4] at hc han
    have e2 : an = ⟨[(0, .asis), (1, .asis), (5, .asis)], [(4, .asis)]⟩ := (Option.some.inj (show some _ = some an from han)).symm
    have e1 : c = (findLoop 4 (codeOf Try.f13)).getD .skip := by rw [hc]; rfl
    cases hd : sh4.dec s with
    | none => rw [hd] at h1; cases h1
    | some v =>
      rw [hd] at h1
      refine ⟨k, ?_⟩
      rw [e1, e2, Shape.dec_enc _ _ _ hd]
      exact (run4 k K k (fl4 v)).trans h1
  have h := not_key q4 h
  cases h
theorem fit (k : Nat) : codeFit (env k) (codeOf Try.f13) = true := by kernel_rfl
theorem lps : (loopsIn (codeOf Try.f13)).map (fun d => findLoop (firstRegion d) (codeOf Try.f13)) = (loopsIn (codeOf Try.f13)).map some := by kernel_rfl
theorem hf : Try.prog.funcs[13]? = some Try.f13 := by kernel_rfl
theorem hb : Try.f13.body = some (codeOf Try.f13) := by kernel_rfl
theorem hn : (Try.f13.name == "runtime.NumGoroutine") = false := by kernel_rfl
theorem sound (k : Nat) : Sound Try.prog 13 (entry k) := func_sound (E := env k) (by kernel_rfl) (by kernel_rfl) (by kernel_rfl) (tbl_cons (spec_l01In.sound k) (tbl_cons (spec_l10Chips.sound k) tbl_nil)) hf hb hn (fit k) (loops_all lps) (loops k) (eq k)
end spec_ArePayments

namespace spec_l12Uncalled
def entry (k : Nat) : Entry := ⟨[.ro (.sl 2 (.int .i64))], [.own (.int .i64), .own (.int .i64)], fun (a0, _) => f k a0⟩
def env (k : Nat) : Env := ⟨Try.prog, 52, AM.look none [], AM.look none [(3, some ⟨[(0, .asis), (4, .asis), (5, .asis)], [(0, .asis), (4, .asis)]⟩), (9, some ⟨[(0, .asis), (4, .asis), (6, .asis), (7, .asis)], [(0, .asis), (4, .asis), (6, .asis)]⟩)]⟩
abbrev R := Res [.own (.int .i64), .own (.int .i64)] × Outs [.ro (.sl 2 (.int .i64))]
def sh3 : Shape := ⟨[(0, .val (.sl 2 (.int .i64))), (4, .val (.int .i64)), (5, .val (.int .i64))], [], 0, []⟩
def osh3kx0 : Shape := ⟨[(0, .val (.sl 2 (.int .i64))), (4, .val (.int .i64))], [], 0, []⟩
def un3 : (List Int) × Int × Int → sh3.V := fun (x0, x4, x5) => ((x0, (x4, (x5, ()))), ())
def fl3 : sh3.V → (List Int) × Int × Int := fun ((x0, (x4, (x5, _))), _) => (x0, x4, x5)
def sh9 : Shape := ⟨[(0, .val (.sl 2 (.int .i64))), (4, .val (.int .i64)), (6, .val (.int .i64)), (7, .val (.int .i64))], [], 0, []⟩
def osh9kx2 : Shape := ⟨[(0, .val (.sl 2 (.int .i64))), (4, .val (.int .i64)), (6, .val (.int .i64))], [], 0, []⟩
def un9 : (List Int) × Int × Int × Int → sh9.V := fun (x0, x4, x6, x7) => ((x0, (x4, (x6, (x7, ())))), ())
def fl9 : sh9.V → (List Int) × Int × Int × Int := fun ((x0, (x4, (x6, (x7, _)))), _) => (x0, x4, x6, x7)
def L (k : Nat) (q : Nat) (s : St) (K : AExit → St → Option R) : Option R := bif Nat.beq q 3 then (match sh3.dec s with | some v => l3 (R := R) k k (fl3 v) (fun (x0, x4) => K (.exit 0) (osh3kx0.enc ((x0, (x4, ())), ()))) | none => none) else (bif Nat.beq q 9 then (match sh9.dec s with | some v => l9 (R := R) k k (fl9 v) (fun (x0, x4, x6) => K (.exit 2) (osh9kx2.enc ((x0, (x4, (x6, ()))), ()))) | none => none) else (none))
theorem step3 (k n : Nat) (K : AExit → St → Option R) : ∀ v, aloop (aexec (env k) (L k) ((findLoop 3 (codeOf Try.f54)).getD .skip)) (normSt [(0, .asis), (4, .asis), (5, .asis)]) (normSt [(0, .asis), (4, .asis)]) K (n + 1) (sh3.enc (un3 v)) = s3 (R := R) k (fun w => aloop (aexec (env k) (L k) ((findLoop 3 (codeOf Try.f54)).getD .skip)) (normSt [(0, .asis), (4, .asis), (5, .asis)]) (normSt [(0, .asis), (4, .asis)]) K n (sh3.enc (un3 w))) (fun (x0, x4) => K (.exit 0) (osh3kx0.enc ((x0, (x4, ())), ()))) v := by intro v; kernel_rfl
theorem step9 (k n : Nat) (K : AExit → St → Option R) : ∀ v, aloop (aexec (env k) (L k) ((findLoop 9 (codeOf Try.f54)).getD .skip)) (normSt [(0, .asis), (4, .asis), (6, .asis), (7, .asis)]) (normSt [(0, .asis), (4, .asis), (6, .asis)]) K (n + 1) (sh9.enc (un9 v)) = s9 (R := R) k (fun w => aloop (aexec (env k) (L k) ((findLoop 9 (codeOf Try.f54)).getD .skip)) (normSt [(0, .asis), (4, .asis), (6, .asis), (7, .asis)]) (normSt [(0, .asis), (4, .asis), (6, .asis)]) K n (sh9.enc (un9 w))) (fun (x0, x4, x6) => K (.exit 2) (osh9kx2.enc ((x0, (x4, (x6, ()))), ()))) v := by intro v; kernel_rfl
theorem eq (k : Nat) : ∀ a, aexec (env k) (L k) (codeOf Try.f54) (begSt [.ro (.sl 2 (.int .i64))] a) (finK (env k) Try.f54 [.ro (.sl 2 (.int .i64))] [.own (.int .i64), .own (.int .i64)]) = (entry k).fn a := by intro a; kernel_rfl
theorem run3 (k : Nat) (K : AExit → St → Option R) : ∀ n v, aloop (aexec (env k) (L k) ((findLoop 3 (codeOf Try.f54)).getD .skip)) (normSt [(0, .asis), (4, .asis), (5, .asis)]) (normSt [(0, .asis), (4, .asis)]) K n (sh3.enc (un3 v)) = l3 (R := R) k n v (fun (x0, x4) => K (.exit 0) (osh3kx0.enc ((x0, (x4, ())), ()))) := loop_eq (fun n v => aloop (aexec (env k) (L k) ((findLoop 3 (codeOf Try.f54)).getD .skip)) (normSt [(0, .asis), (4, .asis), (5, .asis)]) (normSt [(0, .asis), (4, .asis)]) K n (sh3.enc (un3 v))) (fun n v => l3 (R := R) k n v (fun (x0, x4) => K (.exit 0) (osh3kx0.enc ((x0, (x4, ())), ())))) (fun X v => s3 (R := R) k X (fun (x0, x4) => K (.exit 0) (osh3kx0.enc ((x0, (x4, ())), ()))) v) (fun _ => rfl) (fun n v => step3 k n K v) (fun n v => rfl)
theorem run9 (k : Nat) (K : AExit → St → Option R) : ∀ n v, aloop (aexec (env k) (L k) ((findLoop 9 (codeOf Try.f54)).getD .skip)) (normSt [(0, .asis), (4, .asis), (6, .asis), (7, .asis)]) (normSt [(0, .asis), (4, .asis), (6, .asis)]) K n (sh9.enc (un9 v)) = l9 (R := R) k n v (fun (x0, x4, x6) => K (.exit 2) (osh9kx2.enc ((x0, (x4, (x6, ()))), ()))) := loop_eq (fun n v => aloop (aexec (env k) (L k) ((findLoop 9 (codeOf Try.f54)).getD .skip)) (normSt [(0, .asis), (4, .asis), (6, .asis), (7, .asis)]) (normSt [(0, .asis), (4, .asis), (6, .asis)]) K n (sh9.enc (un9 v))) (fun n v => l9 (R := R) k n v (fun (x0, x4, x6) => K (.exit 2) (osh9kx2.enc ((x0, (x4, (x6, ()))), ())))) (fun X v => s9 (R := R) k X (fun (x0, x4, x6) => K (.exit 2) (osh9kx2.enc ((x0, (x4, (x6, ()))), ()))) v) (fun _ => rfl) (fun n v => step9 k n K v) (fun n v => rfl)
theorem loops (k : Nat) : LoopsOk (env k) (L k) (codeOf Try.f54) := by
  intro c an hc han s K r h
  unfold L at h
  by_cases q3 : firstRegion c = 3
  · have h1 := key_eq q3 h
    rw [q3] at hc han
    have e2 : an = ⟨[(0, .asis), (4, .asis), (5, .asis)], [(0, .asis), (4, .asis)]⟩ := (Option.some.inj (show some _ = some an from han)).symm
    have e1 : c = (findLoop 3 (codeOf Try.f54)).getD .skip := by rw [hc]; rfl
    cases hd : sh3.dec s with
    | none => rw [hd] at h1; cases h1
    | some v =>
      rw [hd] at h1
      refine ⟨k, ?_⟩
      rw [e1, e2, Shape.dec_enc _ _ _ hd]
      exact (run3 k K k (fl3 v)).trans h1
  have h := not_key q3 h
  by_cases q9 : firstRegion c = 9
  · have h1 := key_eq q9 h
    rw [q9] at hc han
    have e2 : an = ⟨[(0, .asis), (4, .asis), (6, .asis), (7, .asis)], [(0, .asis), (4, .asis), (6, .asis)]⟩ := (Option.some.inj (show some _ = some an from han)).symm
    have e1 : c = (findLoop 9 (codeOf Try.f54)).getD .skip := by rw [hc]; rfl
    cases hd : sh9.dec s with
    | none => rw [hd] at h1; cases h1
    | some v =>
      rw [hd] at h1
      refine ⟨k, ?_⟩
      rw [e1, e2, Shape.dec_enc _ _ _ hd]
      exact (run9 k K k (fl9 v)).trans h1
  have h := not_key q9 h
  cases h
theorem fit (k : Nat) : codeFit (env k) (codeOf Try.f54) = true := by kernel_rfl
theorem lps : (loopsIn (codeOf Try.f54)).map (fun d => findLoop (firstRegion d) (codeOf Try.f54)) = (loopsIn (codeOf Try.f54)).map some := by kernel_rfl
theorem hf : Try.prog.funcs[54]? = some Try.f54 := by kernel_rfl
theorem hb : Try.f54.body = some (codeOf Try.f54) := by kernel_rfl
theorem hn : (Try.f54.name == "runtime.NumGoroutine") = false := by kernel_rfl
theorem sound (k : Nat) : Sound Try.prog 54 (entry k) := func_sound (E := env k) (by kernel_rfl) (by kernel_rfl) (by kernel_rfl) tbl_nil hf hb hn (fit k) (loops_all lps) (loops k) (eq k)
end spec_l12Uncalled

namespace spec_l01Own
def entry (k : Nat) : Entry := ⟨[.ro (.sl 2 (.int .i64))], [.own (.sl 2 (.int .i64))], fun (a0, _) => f k a0⟩
def env (k : Nat) : Env := ⟨Try.prog, 6, AM.look none [], AM.look none []⟩
abbrev R := Res [.own (.sl 2 (.int .i64))] × Outs [.ro (.sl 2 (.int .i64))]
def L (k : Nat) (q : Nat) (s : St) (K : AExit → St → Option R) : Option R := none
theorem eq (k : Nat) : ∀ a, aexec (env k) (L k) (codeOf Try.f68) (begSt [.ro (.sl 2 (.int .i64))] a) (finK (env k) Try.f68 [.ro (.sl 2 (.int .i64))] [.own (.sl 2 (.int .i64))]) = (entry k).fn a := by intro a; kernel_rfl
theorem loops (k : Nat) : LoopsOk (env k) (L k) (codeOf Try.f68) := by
  intro c an hc han s K r h
  unfold L at h
  cases h
theorem fit (k : Nat) : codeFit (env k) (codeOf Try.f68) = true := by kernel_rfl
theorem lps : (loopsIn (codeOf Try.f68)).map (fun d => findLoop (firstRegion d) (codeOf Try.f68)) = (loopsIn (codeOf Try.f68)).map some := by kernel_rfl
theorem hf : Try.prog.funcs[68]? = some Try.f68 := by kernel_rfl
theorem hb : Try.f68.body = some (codeOf Try.f68) := by kernel_rfl
theorem hn : (Try.f68.name == "runtime.NumGoroutine") = false := by kernel_rfl
theorem sound (k : Nat) : Sound Try.prog 68 (entry k) := func_sound (E := env k) (by kernel_rfl) (by kernel_rfl) (by kernel_rfl) tbl_nil hf hb hn (fit k) (loops_all lps) (loops k) (eq k)
end spec_l01Own

namespace spec_l12Refund
def entry (k : Nat) : Entry := ⟨[.ro (.sl 2 (.int .i64))], [.own (.sl 2 (.int .i64))], fun (a0, _) => f k a0⟩
def env (k : Nat) : Env := ⟨Try.prog, 23, AM.look none [(54, some (spec_l12Uncalled.entry k)), (68, some (spec_l01Own.entry k))], AM.look none []⟩
abbrev R := Res [.own (.sl 2 (.int .i64))] × Outs [.ro (.sl 2 (.int .i64))]
def L (k : Nat) (q : Nat) (s : St) (K : AExit → St → Option R) : Option R := none
theorem eq (k : Nat) : ∀ a, aexec (env k) (L k) (codeOf Try.f56) (begSt [.ro (.sl 2 (.int .i64))] a) (finK (env k) Try.f56 [.ro (.sl 2 (.int .i64))] [.own (.sl 2 (.int .i64))]) = (entry k).fn a := by intro a; kernel_rfl
theorem loops (k : Nat) : LoopsOk (env k) (L k) (codeOf Try.f56) := by
  intro c an hc han s K r h
  unfold L at h
  cases h
theorem fit (k : Nat) : codeFit (env k) (codeOf Try.f56) = true := by kernel_rfl
theorem lps : (loopsIn (codeOf Try.f56)).map (fun d => findLoop (firstRegion d) (codeOf Try.f56)) = (loopsIn (codeOf Try.f56)).map some := by kernel_rfl
theorem hf : Try.prog.funcs[56]? = some Try.f56 := by kernel_rfl
theorem hb : Try.f56.body = some (codeOf Try.f56) := by kernel_rfl
theorem hn : (Try.f56.name == "runtime.NumGoroutine") = false := by kernel_rfl
theorem sound (k : Nat) : Sound Try.prog 56 (entry k) := func_sound (E := env k) (by kernel_rfl) (by kernel_rfl) (by kernel_rfl) (tbl_cons (spec_l12Uncalled.sound k) (tbl_cons (spec_l01Own.sound k) tbl_nil)) hf hb hn (fit k) (loops_all lps) (loops k) (eq k)
end spec_l12Refund

namespace spec_RefundOf
def entry (k : Nat) : Entry := ⟨[.ro (.sl 2 (.int .i64)), .ro (.sl 4 .bool)], [.own (.sl 2 (.int .i64)), .own (.int .i64)], fun (a0, (a1, _)) => f k a0 a1⟩
def env (k : Nat) : Env := ⟨Try.prog, 12, AM.look none [(13, some (spec_ArePayments.entry k)), (56, some (spec_l12Refund.entry k))], AM.look none []⟩
abbrev R := Res [.own (.sl 2 (.int .i64)), .own (.int .i64)] × Outs [.ro (.sl 2 (.int .i64)), .ro (.sl 4 .bool)]
def L (k : Nat) (q : Nat) (s : St) (K : AExit → St → Option R) : Option R := none
theorem eq (k : Nat) : ∀ a, aexec (env k) (L k) (codeOf Try.f25) (begSt [.ro (.sl 2 (.int .i64)), .ro (.sl 4 .bool)] a) (finK (env k) Try.f25 [.ro (.sl 2 (.int .i64)), .ro (.sl 4 .bool)] [.own (.sl 2 (.int .i64)), .own (.int .i64)]) = (entry k).fn a := by intro a; kernel_rfl
theorem loops (k : Nat) : LoopsOk (env k) (L k) (codeOf Try.f25) := by
  intro c an hc han s K r h
  unfold L at h
  cases h
theorem fit (k : Nat) : codeFit (env k) (codeOf Try.f25) = true := by kernel_rfl
theorem lps : (loopsIn (codeOf Try.f25)).map (fun d => findLoop (firstRegion d) (codeOf Try.f25)) = (loopsIn (codeOf Try.f25)).map some := by kernel_rfl
theorem hf : Try.prog.funcs[25]? = some Try.f25 := by kernel_rfl
theorem hb : Try.f25.body = some (codeOf Try.f25) := by kernel_rfl
theorem hn : (Try.f25.name == "runtime.NumGoroutine") = false := by kernel_rfl
theorem sound (k : Nat) : Sound Try.prog 25 (entry k) := func_sound (E := env k) (by kernel_rfl) (by kernel_rfl) (by kernel_rfl) (tbl_cons (spec_ArePayments.sound k) (tbl_cons (spec_l12Refund.sound k) tbl_nil)) hf hb hn (fit k) (loops_all lps) (loops k) (eq k)
end spec_RefundOf

namespace impl_within
def entry (k : Nat) : Entry := ⟨[.ro (.int .i64), .ro (.int .i64), .ro (.int .i64)], [.own .bool], fun (a0, (a1, (a2, _))) => f k a0 a1 a2⟩
def env (k : Nat) : Env := ⟨Try.prog, 15, AM.look none [], AM.look none []⟩
abbrev R := Res [.own .bool] × Outs [.ro (.int .i64), .ro (.int .i64), .ro (.int .i64)]
def L (k : Nat) (q : Nat) (s : St) (K : AExit → St → Option R) : Option R := none
theorem eq (k : Nat) : ∀ a, aexec (env k) (L k) (codeOf Try.f49) (begSt [.ro (.int .i64), .ro (.int .i64), .ro (.int .i64)] a) (finK (env k) Try.f49 [.ro (.int .i64), .ro (.int .i64), .ro (.int .i64)] [.own .bool]) = (entry k).fn a := by intro a; kernel_rfl
theorem loops (k : Nat) : LoopsOk (env k) (L k) (codeOf Try.f49) := by
  intro c an hc han s K r h
  unfold L at h
  cases h
theorem fit (k : Nat) : codeFit (env k) (codeOf Try.f49) = true := by kernel_rfl
theorem lps : (loopsIn (codeOf Try.f49)).map (fun d => findLoop (firstRegion d) (codeOf Try.f49)) = (loopsIn (codeOf Try.f49)).map some := by kernel_rfl
theorem hf : Try.prog.funcs[49]? = some Try.f49 := by kernel_rfl
theorem hb : Try.f49.body = some (codeOf Try.f49) := by kernel_rfl
theorem hn : (Try.f49.name == "runtime.NumGoroutine") = false := by kernel_rfl
theorem sound (k : Nat) : Sound Try.prog 49 (entry k) := func_sound (E := env k) (by kernel_rfl) (by kernel_rfl) (by kernel_rfl) tbl_nil hf hb hn (fit k) (loops_all lps) (loops k) (eq k)
end impl_within

namespace impl_allWithin
def entry (k : Nat) : Entry := ⟨[.ro (.sl 2 (.int .i64)), .ro (.int .i64), .ro (.int .i64)], [.own .bool], fun (a0, (a1, (a2, _))) => f k a0 a1 a2⟩
def env (k : Nat) : Env := ⟨Try.prog, 21, AM.look none [(49, some (impl_within.entry k))], AM.look none [(2, some ⟨[(1, .asis), (2, .asis), (9, .asis), (10, .asis), (11, .asis)], [(6, .asis)]⟩)]⟩
abbrev R := Res [.own .bool] × Outs [.ro (.sl 2 (.int .i64)), .ro (.int .i64), .ro (.int .i64)]
def sh2 : Shape := ⟨[(1, .val (.int .i64)), (2, .val (.int .i64)), (9, .val (.sl 2 (.int .i64))), (10, .val (.int .i64)), (11, .val (.int .i64))], [], 0, []⟩
def osh2kx0 : Shape := ⟨[(6, .undef)], [], 0, []⟩
def osh2kr : Shape := ⟨[(6, .val .bool)], [], 0, []⟩
def un2 : Int × Int × (List Int) × Int × Int → sh2.V := fun (x1, x2, x9, x10, x11) => ((x1, (x2, (x9, (x10, (x11, ()))))), ())
def fl2 : sh2.V → Int × Int × (List Int) × Int × Int := fun ((x1, (x2, (x9, (x10, (x11, _))))), _) => (x1, x2, x9, x10, x11)
def L (k : Nat) (q : Nat) (s : St) (K : AExit → St → Option R) : Option R := bif Nat.beq q 2 then (match sh2.dec s with | some v => l2 (R := R) k k (fl2 v) (fun (_ : Unit) => K (.exit 0) (osh2kx0.enc (((), ()), ()))) (fun x6 => K .ret (osh2kr.enc ((x6, ()), ()))) | none => none) else (none)
theorem step2 (k n : Nat) (K : AExit → St → Option R) : ∀ v, aloop (aexec (env k) (L k) ((findLoop 2 (codeOf Try.f50)).getD .skip)) (normSt [(1, .asis), (2, .asis), (9, .asis), (10, .asis), (11, .asis)]) (normSt [(6, .asis)]) K (n + 1) (sh2.enc (un2 v)) = s2 (R := R) k (fun w => aloop (aexec (env k) (L k) ((findLoop 2 (codeOf Try.f50)).getD .skip)) (normSt [(1, .asis), (2, .asis), (9, .asis), (10, .asis), (11, .asis)]) (normSt [(6, .asis)]) K n (sh2.enc (un2 w))) (fun (_ : Unit) => K (.exit 0) (osh2kx0.enc (((), ()), ()))) (fun x6 => K .ret (osh2kr.enc ((x6, ()), ()))) v := by intro v; kernel_rfl
theorem eq (k : Nat) : ∀ a, aexec (env k) (L k) (codeOf Try.f50) (begSt [.ro (.sl 2 (.int .i64)), .ro (.int .i64), .ro (.int .i64)] a) (finK (env k) Try.f50 [.ro (.sl 2 (.int .i64)), .ro (.int .i64), .ro (.int .i64)] [.own .bool]) = (entry k).fn a := by intro a; kernel_rfl
theorem run2 (k : Nat) (K : AExit → St → Option R) : ∀ n v, aloop (aexec (env k) (L k) ((findLoop 2 (codeOf Try.f50)).getD .skip)) (normSt [(1, .asis), (2, .asis), (9, .asis), (10, .asis), (11, .asis)]) (normSt [(6, .asis)]) K n (sh2.enc (un2 v)) = l2 (R := R) k n v (fun (_ : Unit) => K (.exit 0) (osh2kx0.enc (((), ()), ()))) (fun x6 => K .ret (osh2kr.enc ((x6, ()), ()))) := loop_eq (fun n v => aloop (aexec (env k) (L k) ((findLoop 2 (codeOf Try.f50)).getD .skip)) (normSt [(1, .asis), (2, .asis), (9, .asis), (10, .asis), (11, .asis)]) (normSt [(6, .asis)]) K n (sh2.enc (un2 v))) (fun n v => l2 (R := R) k n v (fun (_ : Unit) => K (.exit 0) (osh2kx0.enc (((), ()), ()))) (fun x6 => K .ret (osh2kr.enc ((x6, ()), ())))) (fun X v => s2 (R := R) k X (fun (_ : Unit) => K (.exit 0) (osh2kx0.enc (((), ()), ()))) (fun x6 => K .ret (osh2kr.enc ((x6, ()), ()))) v) (fun _ => rfl) (fun n v => step2 k n K v) (fun n v => rfl)
theorem loops (k : Nat) : LoopsOk (env k) (L k) (codeOf Try.f50) := by
  intro c an hc han s K r h
  unfold L at h
  by_cases q2 : firstRegion c = 2
  · have h1 := key_eq q2 h
    rw [q2] at hc han
    have e2 : an = ⟨[(1, .asis), (2, .asis), (9, .asis), (10, .asis), (11, .asis)], [(6, .asis)]⟩ := (Option.some.inj (show some _ = some an from han)).symm
    have e1 : c = (findLoop 2 (codeOf Try.f50)).getD .skip := by rw [hc]; rfl
    cases hd : sh2.dec s with
    | none => rw [hd] at h1; cases h1
    | some v =>
      rw [hd] at h1
      refine ⟨k, ?_⟩
      rw [e1, e2, Shape.dec_enc _ _ _ hd]
      exact (run2 k K k (fl2 v)).trans h1
  have h := not_key q2 h
  cases h
theorem fit (k : Nat) : codeFit (env k) (codeOf Try.f50) = true := by kernel_rfl
theorem lps : (loopsIn (codeOf Try.f50)).map (fun d => findLoop (firstRegion d) (codeOf Try.f50)) = (loopsIn (codeOf Try.f50)).map some := by kernel_rfl
theorem hf : Try.prog.funcs[50]? = some Try.f50 := by kernel_rfl
theorem hb : Try.f50.body = some (codeOf Try.f50) := by kernel_rfl
theorem hn : (Try.f50.name == "runtime.NumGoroutine") = false := by kernel_rfl
theorem sound (k : Nat) : Sound Try.prog 50 (entry k) := func_sound (E := env k) (by kernel_rfl) (by kernel_rfl) (by kernel_rfl) (tbl_cons (impl_within.sound k) tbl_nil) hf hb hn (fit k) (loops_all lps) (loops k) (eq k)
end impl_allWithin

namespace impl_ArePayments
def entry (k : Nat) : Entry := ⟨[.ro (.sl 2 (.int .i64)), .ro (.sl 4 .bool)], [.own .bool], fun (a0, (a1, _)) => f k a0 a1⟩
def env (k : Nat) : Env := ⟨Try.prog, 40, AM.look none [(49, some (impl_within.entry k)), (50, some (impl_allWithin.entry k))], AM.look none [(4, some ⟨[(1, .asis), (23, .asis), (24, .asis), (25, .asis)], [(4, .asis)]⟩)]⟩
abbrev R := Res [.own .bool] × Outs [.ro (.sl 2 (.int .i64)), .ro (.sl 4 .bool)]
def sh4 : Shape := ⟨[(1, .val (.sl 4 .bool)), (23, .val (.sl 2 (.int .i64))), (24, .val (.int .i64)), (25, .val (.int .i64))], [], 0, []⟩
def osh4kx0 : Shape := ⟨[(4, .undef)], [], 0, []⟩
def osh4kr : Shape := ⟨[(4, .val .bool)], [], 0, []⟩
def un4 : (List Bool) × (List Int) × Int × Int → sh4.V := fun (x1, x23, x24, x25) => ((x1, (x23, (x24, (x25, ())))), ())
def fl4 : sh4.V → (List Bool) × (List Int) × Int × Int := fun ((x1, (x23, (x24, (x25, _)))), _) => (x1, x23, x24, x25)
def L (k : Nat) (q : Nat) (s : St) (K : AExit → St → Option R) : Option R := bif Nat.beq q 4 then (match sh4.dec s with | some v => l4 (R := R) k k (fl4 v) (fun (_ : Unit) => K (.exit 0) (osh4kx0.enc (((), ()), ()))) (fun x4 => K .ret (osh4kr.enc ((x4, ()), ()))) | none => none) else (none)
theorem step4 (k n : Nat) (K : AExit → St → Option R) : ∀ v, aloop (aexec (env k) (L k) ((findLoop 4 (codeOf Try.f16)).getD .skip)) (normSt [(1, .asis), (23, .asis), (24, .asis), (25, .asis)]) (normSt [(4, .asis)]) K (n + 1) (sh4.enc (un4 v)) = s4 (R := R) k (fun w => aloop (aexec (env k) (L k) ((findLoop 4 (codeOf Try.f16)).getD .skip)) (normSt [(1, .asis), (23, .asis), (24, .asis), (25, .asis)]) (normSt [(4, .asis)]) K n (sh4.enc (un4 w))) (fun (_ : Unit) => K (.exit 0) (osh4kx0.enc (((), ()), ()))) (fun x4 => K .ret (osh4kr.enc ((x4, ()), ()))) v := by intro v; kernel_rfl
theorem eq (k : Nat) : ∀ a, aexec (env k) (L k) (codeOf Try.f16) (begSt [.ro (.sl 2 (.int .i64)), .ro (.sl 4 .bool)] a) (finK (env k) Try.f16 [.ro (.sl 2 (.int .i64)), .ro (.sl 4 .bool)] [.own .bool]) = (entry k).fn a := by intro a; kernel_rfl
theorem run4 (k : Nat) (K : AExit → St → Option R) : ∀ n v, aloop (aexec (env k) (L k) ((findLoop 4 (codeOf Try.f16)).getD .skip)) (normSt [(1, .asis), (23, .asis), (24, .asis), (25, .asis)]) (normSt [(4, .asis)]) K n (sh4.enc (un4 v)) = l4 (R := R) k n v (fun (_ : Unit) => K (.exit 0) (osh4kx0.enc (((), ()), ()))) (fun x4 => K .ret (osh4kr.enc ((x4, ()), ()))) := loop_eq (fun n v => aloop (aexec (env k) (L k) ((findLoop 4 (codeOf Try.f16)).getD .skip)) (normSt [(1, .asis), (23, .asis), (24, .asis), (25, .asis)]) (normSt [(4, .asis)]) K n (sh4.enc (un4 v))) (fun n v => l4 (R := R) k n v (fun (_ : Unit) => K (.exit 0) (osh4kx0.enc (((), ()), ()))) (fun x4 => K .ret (osh4kr.enc ((x4, ()), ())))) (fun X v => s4 (R := R) k X (fun (_ : Unit) => K (.exit 0) (osh4kx0.enc (((), ()), ()))) (fun x4 => K .ret (osh4kr.enc ((x4, ()), ()))) v) (fun _ => rfl) (fun n v => step4 k n K v) (fun n v => rfl)
theorem loops (k : Nat) : LoopsOk (env k) (L k) (codeOf Try.f16) := by
  intro c an hc han s K r h
  unfold L at h
  by_cases q4 : firstRegion c = 4
  · have h1 := key_eq q4 h
    rw [q4] at hc han
    have e2 : an = ⟨[(1, .asis), (23, .asis), (24, .asis), (25, .asis)], [(4, .asis)]⟩ := (Option.some.inj (show some _ = some an from han)).symm
    have e1 : c = (findLoop 4 (codeOf Try.f16)).getD .skip := by rw [hc]; rfl
    cases hd : sh4.dec s with
    | none => rw [hd] at h1; cases h1
    | some v =>
      rw [hd] at h1
      refine ⟨k, ?_⟩
      rw [e1, e2, Shape.dec_enc _ _ _ hd]
      exact (run4 k K k (fl4 v)).trans h1
  have h := not_key q4 h
  cases h
theorem fit (k : Nat) : codeFit (env k) (codeOf Try.f16) = true := by kernel_rfl
theorem lps : (loopsIn (codeOf Try.f16)).map (fun d => findLoop (firstRegion d) (codeOf Try.f16)) = (loopsIn (codeOf Try.f16)).map some := by kernel_rfl
theorem hf : Try.prog.funcs[16]? = some Try.f16 := by kernel_rfl
theorem hb : Try.f16.body = some (codeOf Try.f16) := by kernel_rfl
theorem hn : (Try.f16.name == "runtime.NumGoroutine") = false := by kernel_rfl
theorem sound (k : Nat) : Sound Try.prog 16 (entry k) := func_sound (E := env k) (by kernel_rfl) (by kernel_rfl) (by kernel_rfl) (tbl_cons (impl_within.sound k) (tbl_cons (impl_allWithin.sound k) tbl_nil)) hf hb hn (fit k) (loops_all lps) (loops k) (eq k)
end impl_ArePayments

namespace slices_Clone_int64_int64
def entry (k : Nat) : Entry := ⟨[.ro (.sl 2 (.int .i64))], [.own (.sl 2 (.int .i64))], fun (a0, _) => f k a0⟩
def env (k : Nat) : Env := ⟨Try.prog, 8, AM.look none [], AM.look none []⟩
abbrev R := Res [.own (.sl 2 (.int .i64))] × Outs [.ro (.sl 2 (.int .i64))]
def L (k : Nat) (q : Nat) (s : St) (K : AExit → St → Option R) : Option R := none
theorem eq (k : Nat) : ∀ a, aexec (env k) (L k) (codeOf Try.f53) (begSt [.ro (.sl 2 (.int .i64))] a) (finK (env k) Try.f53 [.ro (.sl 2 (.int .i64))] [.own (.sl 2 (.int .i64))]) = (entry k).fn a := by intro a; kernel_rfl
theorem loops (k : Nat) : LoopsOk (env k) (L k) (codeOf Try.f53) := by
  intro c an hc han s K r h
  unfold L at h
  cases h
theorem fit (k : Nat) : codeFit (env k) (codeOf Try.f53) = true := by kernel_rfl
theorem lps : (loopsIn (codeOf Try.f53)).map (fun d => findLoop (firstRegion d) (codeOf Try.f53)) = (loopsIn (codeOf Try.f53)).map some := by kernel_rfl
theorem hf : Try.prog.funcs[53]? = some Try.f53 := by kernel_rfl
theorem hb : Try.f53.body = some (codeOf Try.f53) := by kernel_rfl
theorem hn : (Try.f53.name == "runtime.NumGoroutine") = false := by kernel_rfl
theorem sound (k : Nat) : Sound Try.prog 53 (entry k) := func_sound (E := env k) (by kernel_rfl) (by kernel_rfl) (by kernel_rfl) tbl_nil hf hb hn (fit k) (loops_all lps) (loops k) (eq k)
end slices_Clone_int64_int64

namespace slices_Max_int64_int64
def entry (k : Nat) : Entry := ⟨[.ro (.sl 2 (.int .i64))], [.own (.int .i64)], fun (a0, _) => f k a0⟩
def env (k : Nat) : Env := ⟨Try.prog, 25, AM.look none [], AM.look none [(5, some ⟨[(0, .asis), (3, .asis), (4, .asis)], [(3, .asis)]⟩)]⟩
abbrev R := Res [.own (.int .i64)] × Outs [.ro (.sl 2 (.int .i64))]
def sh5 : Shape := ⟨[(0, .val (.sl 2 (.int .i64))), (3, .val (.int .i64)), (4, .val (.int .i64))], [], 0, []⟩
def osh5kx0 : Shape := ⟨[(3, .val (.int .i64))], [], 0, []⟩
def un5 : (List Int) × Int × Int → sh5.V := fun (x0, x3, x4) => ((x0, (x3, (x4, ()))), ())
def fl5 : sh5.V → (List Int) × Int × Int := fun ((x0, (x3, (x4, _))), _) => (x0, x3, x4)
def L (k : Nat) (q : Nat) (s : St) (K : AExit → St → Option R) : Option R := bif Nat.beq q 5 then (match sh5.dec s with | some v => l5 (R := R) k k (fl5 v) (fun x3 => K (.exit 0) (osh5kx0.enc ((x3, ()), ()))) | none => none) else (none)
theorem step5 (k n : Nat) (K : AExit → St → Option R) : ∀ v, aloop (aexec (env k) (L k) ((findLoop 5 (codeOf Try.f66)).getD .skip)) (normSt [(0, .asis), (3, .asis), (4, .asis)]) (normSt [(3, .asis)]) K (n + 1) (sh5.enc (un5 v)) = s5 (R := R) k (fun w => aloop (aexec (env k) (L k) ((findLoop 5 (codeOf Try.f66)).getD .skip)) (normSt [(0, .asis), (3, .asis), (4, .asis)]) (normSt [(3, .asis)]) K n (sh5.enc (un5 w))) (fun x3 => K (.exit 0) (osh5kx0.enc ((x3, ()), ()))) v := by intro v; kernel_rfl
theorem eq (k : Nat) : ∀ a, aexec (env k) (L k) (codeOf Try.f66) (begSt [.ro (.sl 2 (.int .i64))] a) (finK (env k) Try.f66 [.ro (.sl 2 (.int .i64))] [.own (.int .i64)]) = (entry k).fn a := by intro a; kernel_rfl
theorem run5 (k : Nat) (K : AExit → St → Option R) : ∀ n v, aloop (aexec (env k) (L k) ((findLoop 5 (codeOf Try.f66)).getD .skip)) (normSt [(0, .asis), (3, .asis), (4, .asis)]) (normSt [(3, .asis)]) K n (sh5.enc (un5 v)) = l5 (R := R) k n v (fun x3 => K (.exit 0) (osh5kx0.enc ((x3, ()), ()))) := loop_eq (fun n v => aloop (aexec (env k) (L k) ((findLoop 5 (codeOf Try.f66)).getD .skip)) (normSt [(0, .asis), (3, .asis), (4, .asis)]) (normSt [(3, .asis)]) K n (sh5.enc (un5 v))) (fun n v => l5 (R := R) k n v (fun x3 => K (.exit 0) (osh5kx0.enc ((x3, ()), ())))) (fun X v => s5 (R := R) k X (fun x3 => K (.exit 0) (osh5kx0.enc ((x3, ()), ()))) v) (fun _ => rfl) (fun n v => step5 k n K v) (fun n v => rfl)
theorem loops (k : Nat) : LoopsOk (env k) (L k) (codeOf Try.f66) := by
  intro c an hc han s K r h
  unfold L at h
  by_cases q5 : firstRegion c = 5
  · have h1 := key_eq q5 h
    rw [q5] at hc han
    have e2 : an = ⟨[(0, .asis), (3, .asis), (4, .asis)], [(3, .asis)]⟩ := (Option.some.inj (show some _ = some an from han)).symm
    have e1 : c = (findLoop 5 (codeOf Try.f66)).getD .skip := by rw [hc]; rfl
    cases hd : sh5.dec s with
    | none => rw [hd] at h1; cases h1
    | some v =>
      rw [hd] at h1
      refine ⟨k, ?_⟩
      rw [e1, e2, Shape.dec_enc _ _ _ hd]
      exact (run5 k K k (fl5 v)).trans h1
  have h := not_key q5 h
  cases h
theorem fit (k : Nat) : codeFit (env k) (codeOf Try.f66) = true := by kernel_rfl
theorem lps : (loopsIn (codeOf Try.f66)).map (fun d => findLoop (firstRegion d) (codeOf Try.f66)) = (loopsIn (codeOf Try.f66)).map some := by kernel_rfl
theorem hf : Try.prog.funcs[66]? = some Try.f66 := by kernel_rfl
theorem hb : Try.f66.body = some (codeOf Try.f66) := by kernel_rfl
theorem hn : (Try.f66.name == "runtime.NumGoroutine") = false := by kernel_rfl
theorem sound (k : Nat) : Sound Try.prog 66 (entry k) := func_sound (E := env k) (by kernel_rfl) (by kernel_rfl) (by kernel_rfl) tbl_nil hf hb hn (fit k) (loops_all lps) (loops k) (eq k)
end slices_Max_int64_int64

namespace slices_Index_int64_int64
def entry (k : Nat) : Entry := ⟨[.ro (.sl 2 (.int .i64)), .ro (.int .i64)], [.own (.int .i64)], fun (a0, (a1, _)) => f k a0 a1⟩
def env (k : Nat) : Env := ⟨Try.prog, 19, AM.look none [], AM.look none [(2, some ⟨[(0, .asis), (1, .asis), (7, .asis), (8, .asis)], [(4, .asis)]⟩)]⟩
abbrev R := Res [.own (.int .i64)] × Outs [.ro (.sl 2 (.int .i64)), .ro (.int .i64)]
def sh2 : Shape := ⟨[(0, .val (.sl 2 (.int .i64))), (1, .val (.int .i64)), (7, .val (.int .i64)), (8, .val (.int .i64))], [], 0, []⟩
def osh2kx0 : Shape := ⟨[(4, .undef)], [], 0, []⟩
def osh2kr : Shape := ⟨[(4, .val (.int .i64))], [], 0, []⟩
def un2 : (List Int) × Int × Int × Int → sh2.V := fun (x0, x1, x7, x8) => ((x0, (x1, (x7, (x8, ())))), ())
def fl2 : sh2.V → (List Int) × Int × Int × Int := fun ((x0, (x1, (x7, (x8, _)))), _) => (x0, x1, x7, x8)
def L (k : Nat) (q : Nat) (s : St) (K : AExit → St → Option R) : Option R := bif Nat.beq q 2 then (match sh2.dec s with | some v => l2 (R := R) k k (fl2 v) (fun (_ : Unit) => K (.exit 0) (osh2kx0.enc (((), ()), ()))) (fun x4 => K .ret (osh2kr.enc ((x4, ()), ()))) | none => none) else (none)
theorem step2 (k n : Nat) (K : AExit → St → Option R) : ∀ v, aloop (aexec (env k) (L k) ((findLoop 2 (codeOf Try.f67)).getD .skip)) (normSt [(0, .asis), (1, .asis), (7, .asis), (8, .asis)]) (normSt [(4, .asis)]) K (n + 1) (sh2.enc (un2 v)) = s2 (R := R) k (fun w => aloop (aexec (env k) (L k) ((findLoop 2 (codeOf Try.f67)).getD .skip)) (normSt [(0, .asis), (1, .asis), (7, .asis), (8, .asis)]) (normSt [(4, .asis)]) K n (sh2.enc (un2 w))) (fun (_ : Unit) => K (.exit 0) (osh2kx0.enc (((), ()), ()))) (fun x4 => K .ret (osh2kr.enc ((x4, ()), ()))) v := by intro v; kernel_rfl
theorem eq (k : Nat) : ∀ a, aexec (env k) (L k) (codeOf Try.f67) (begSt [.ro (.sl 2 (.int .i64)), .ro (.int .i64)] a) (finK (env k) Try.f67 [.ro (.sl 2 (.int .i64)), .ro (.int .i64)] [.own (.int .i64)]) = (entry k).fn a := by intro a; kernel_rfl
theorem run2 (k : Nat) (K : AExit → St → Option R) : ∀ n v, aloop (aexec (env k) (L k) ((findLoop 2 (codeOf Try.f67)).getD .skip)) (normSt [(0, .asis), (1, .asis), (7, .asis), (8, .asis)]) (normSt [(4, .asis)]) K n (sh2.enc (un2 v)) = l2 (R := R) k n v (fun (_ : Unit) => K (.exit 0) (osh2kx0.enc (((), ()), ()))) (fun x4 => K .ret (osh2kr.enc ((x4, ()), ()))) := loop_eq (fun n v => aloop (aexec (env k) (L k) ((findLoop 2 (codeOf Try.f67)).getD .skip)) (normSt [(0, .asis), (1, .asis), (7, .asis), (8, .asis)]) (normSt [(4, .asis)]) K n (sh2.enc (un2 v))) (fun n v => l2 (R := R) k n v (fun (_ : Unit) => K (.exit 0) (osh2kx0.enc (((), ()), ()))) (fun x4 => K .ret (osh2kr.enc ((x4, ()), ())))) (fun X v => s2 (R := R) k X (fun (_ : Unit) => K (.exit 0) (osh2kx0.enc (((), ()), ()))) (fun x4 => K .ret (osh2kr.enc ((x4, ()), ()))) v) (fun _ => rfl) (fun n v => step2 k n K v) (fun n v => rfl)
theorem loops (k : Nat) : LoopsOk (env k) (L k) (codeOf Try.f67) := by
  intro c an hc han s K r h
  unfold L at h
  by_cases q2 : firstRegion c = 2
  · have h1 := key_eq q2 h
    rw [q2] at hc han
    have e2 : an = ⟨[(0, .asis), (1, .asis), (7, .asis), (8, .asis)], [(4, .asis)]⟩ := (Option.some.inj (show some _ = some an from han)).symm
    have e1 : c = (findLoop 2 (codeOf Try.f67)).getD .skip := by rw [hc]; rfl
    cases hd : sh2.dec s with
    | none => rw [hd] at h1; cases h1
    | some v =>
      rw [hd] at h1
      refine ⟨k, ?_⟩
      rw [e1, e2, Shape.dec_enc _ _ _ hd]
      exact (run2 k K k (fl2 v)).trans h1
  have h := not_key q2 h
  cases h
theorem fit (k : Nat) : codeFit (env k) (codeOf Try.f67) = true := by kernel_rfl
theorem lps : (loopsIn (codeOf Try.f67)).map (fun d => findLoop (firstRegion d) (codeOf Try.f67)) = (loopsIn (codeOf Try.f67)).map some := by kernel_rfl
theorem hf : Try.prog.funcs[67]? = some Try.f67 := by kernel_rfl
theorem hb : Try.f67.body = some (codeOf Try.f67) := by kernel_rfl
theorem hn : (Try.f67.name == "runtime.NumGoroutine") = false := by kernel_rfl
theorem sound (k : Nat) : Sound Try.prog 67 (entry k) := func_sound (E := env k) (by kernel_rfl) (by kernel_rfl) (by kernel_rfl) tbl_nil hf hb hn (fit k) (loops_all lps) (loops k) (eq k)
end slices_Index_int64_int64

namespace impl_uncalledOf
def entry (k : Nat) : Entry := ⟨[.ro (.sl 2 (.int .i64))], [.own (.int .i64), .own (.int .i64)], fun (a0, _) => f k a0⟩
def env (k : Nat) : Env := ⟨Try.prog, 35, AM.look none [(66, some (slices_Max_int64_int64.entry k)), (67, some (slices_Index_int64_int64.entry k))], AM.look none [(5, some ⟨[(4, .asis), (5, .asis), (6, .asis), (14, .asis), (15, .asis), (16, .asis)], [(4, .asis), (5, .asis), (6, .asis)]⟩)]⟩
abbrev R := Res [.own (.int .i64), .own (.int .i64)] × Outs [.ro (.sl 2 (.int .i64))]
def sh5 : Shape := ⟨[(4, .val (.int .i64)), (5, .val (.int .i64)), (6, .val (.int .i64)), (14, .val (.sl 2 (.int .i64))), (15, .val (.int .i64)), (16, .val (.int .i64))], [], 0, []⟩
def osh5kx0 : Shape := ⟨[(4, .val (.int .i64)), (5, .val (.int .i64)), (6, .val (.int .i64))], [], 0, []⟩
def un5 : Int × Int × Int × (List Int) × Int × Int → sh5.V := fun (x4, x5, x6, x14, x15, x16) => ((x4, (x5, (x6, (x14, (x15, (x16, ())))))), ())
def fl5 : sh5.V → Int × Int × Int × (List Int) × Int × Int := fun ((x4, (x5, (x6, (x14, (x15, (x16, _)))))), _) => (x4, x5, x6, x14, x15, x16)
def L (k : Nat) (q : Nat) (s : St) (K : AExit → St → Option R) : Option R := bif Nat.beq q 5 then (match sh5.dec s with | some v => l5 (R := R) k k (fl5 v) (fun (x4, x5, x6) => K (.exit 0) (osh5kx0.enc ((x4, (x5, (x6, ()))), ()))) | none => none) else (none)
theorem step5 (k n : Nat) (K : AExit → St → Option R) : ∀ v, aloop (aexec (env k) (L k) ((findLoop 5 (codeOf Try.f55)).getD .skip)) (normSt [(4, .asis), (5, .asis), (6, .asis), (14, .asis), (15, .asis), (16, .asis)]) (normSt [(4, .asis), (5, .asis), (6, .asis)]) K (n + 1) (sh5.enc (un5 v)) = s5 (R := R) k (fun w => aloop (aexec (env k) (L k) ((findLoop 5 (codeOf Try.f55)).getD .skip)) (normSt [(4, .asis), (5, .asis), (6, .asis), (14, .asis), (15, .asis), (16, .asis)]) (normSt [(4, .asis), (5, .asis), (6, .asis)]) K n (sh5.enc (un5 w))) (fun (x4, x5, x6) => K (.exit 0) (osh5kx0.enc ((x4, (x5, (x6, ()))), ()))) v := by intro v; kernel_rfl
theorem eq (k : Nat) : ∀ a, aexec (env k) (L k) (codeOf Try.f55) (begSt [.ro (.sl 2 (.int .i64))] a) (finK (env k) Try.f55 [.ro (.sl 2 (.int .i64))] [.own (.int .i64), .own (.int .i64)]) = (entry k).fn a := by intro a; kernel_rfl
theorem run5 (k : Nat) (K : AExit → St → Option R) : ∀ n v, aloop (aexec (env k) (L k) ((findLoop 5 (codeOf Try.f55)).getD .skip)) (normSt [(4, .asis), (5, .asis), (6, .asis), (14, .asis), (15, .asis), (16, .asis)]) (normSt [(4, .asis), (5, .asis), (6, .asis)]) K n (sh5.enc (un5 v)) = l5 (R := R) k n v (fun (x4, x5, x6) => K (.exit 0) (osh5kx0.enc ((x4, (x5, (x6, ()))), ()))) := loop_eq (fun n v => aloop (aexec (env k) (L k) ((findLoop 5 (codeOf Try.f55)).getD .skip)) (normSt [(4, .asis), (5, .asis), (6, .asis), (14, .asis), (15, .asis), (16, .asis)]) (normSt [(4, .asis), (5, .asis), (6, .asis)]) K n (sh5.enc (un5 v))) (fun n v => l5 (R := R) k n v (fun (x4, x5, x6) => K (.exit 0) (osh5kx0.enc ((x4, (x5, (x6, ()))), ())))) (fun X v => s5 (R := R) k X (fun (x4, x5, x6) => K (.exit 0) (osh5kx0.enc ((x4, (x5, (x6, ()))), ()))) v) (fun _ => rfl) (fun n v => step5 k n K v) (fun n v => rfl)
theorem loops (k : Nat) : LoopsOk (env k) (L k) (codeOf Try.f55) := by
  intro c an hc han s K r h
  unfold L at h
  by_cases q5 : firstRegion c = 5
  · have h1 := key_eq q5 h
    rw [q5] at hc han
    have e2 : an = ⟨[(4, .asis), (5, .asis), (6, .asis), (14, .asis), (15, .asis), (16, .asis)], [(4, .asis), (5, .asis), (6, .asis)]⟩ := (Option.some.inj (show some _ = some an from han)).symm
    have e1 : c = (findLoop 5 (codeOf Try.f55)).getD .skip := by rw [hc]; rfl
    cases hd : sh5.dec s with
    | none => rw [hd] at h1; cases h1
    | some v =>
      rw [hd] at h1
      refine ⟨k, ?_⟩
      rw [e1, e2, Shape.dec_enc _ _ _ hd]
      exact (run5 k K k (fl5 v)).trans h1
  have h := not_key q5 h
  cases h
theorem fit (k : Nat) : codeFit (env k) (codeOf Try.f55) = true := by kernel_rfl
theorem lps : (loopsIn (codeOf Try.f55)).map (fun d => findLoop (firstRegion d) (codeOf Try.f55)) = (loopsIn (codeOf Try.f55)).map some := by kernel_rfl
theorem hf : Try.prog.funcs[55]? = some Try.f55 := by kernel_rfl
theorem hb : Try.f55.body = some (codeOf Try.f55) := by kernel_rfl
theorem hn : (Try.f55.name == "runtime.NumGoroutine") = false := by kernel_rfl
theorem sound (k : Nat) : Sound Try.prog 55 (entry k) := func_sound (E := env k) (by kernel_rfl) (by kernel_rfl) (by kernel_rfl) (tbl_cons (slices_Max_int64_int64.sound k) (tbl_cons (slices_Index_int64_int64.sound k) tbl_nil)) hf hb hn (fit k) (loops_all lps) (loops k) (eq k)
end impl_uncalledOf

namespace impl_refunded
def entry (k : Nat) : Entry := ⟨[.ro (.sl 2 (.int .i64))], [.own (.sl 2 (.int .i64))], fun (a0, _) => f k a0⟩
def env (k : Nat) : Env := ⟨Try.prog, 21, AM.look none [(53, some (slices_Clone_int64_int64.entry k)), (55, some (impl_uncalledOf.entry k))], AM.look none []⟩
abbrev R := Res [.own (.sl 2 (.int .i64))] × Outs [.ro (.sl 2 (.int .i64))]
def L (k : Nat) (q : Nat) (s : St) (K : AExit → St → Option R) : Option R := none
theorem eq (k : Nat) : ∀ a, aexec (env k) (L k) (codeOf Try.f57) (begSt [.ro (.sl 2 (.int .i64))] a) (finK (env k) Try.f57 [.ro (.sl 2 (.int .i64))] [.own (.sl 2 (.int .i64))]) = (entry k).fn a := by intro a; kernel_rfl
theorem loops (k : Nat) : LoopsOk (env k) (L k) (codeOf Try.f57) := by
  intro c an hc han s K r h
  unfold L at h
  cases h
theorem fit (k : Nat) : codeFit (env k) (codeOf Try.f57) = true := by kernel_rfl
theorem lps : (loopsIn (codeOf Try.f57)).map (fun d => findLoop (firstRegion d) (codeOf Try.f57)) = (loopsIn (codeOf Try.f57)).map some := by kernel_rfl
theorem hf : Try.prog.funcs[57]? = some Try.f57 := by kernel_rfl
theorem hb : Try.f57.body = some (codeOf Try.f57) := by kernel_rfl
theorem hn : (Try.f57.name == "runtime.NumGoroutine") = false := by kernel_rfl
theorem sound (k : Nat) : Sound Try.prog 57 (entry k) := func_sound (E := env k) (by kernel_rfl) (by kernel_rfl) (by kernel_rfl) (tbl_cons (slices_Clone_int64_int64.sound k) (tbl_cons (impl_uncalledOf.sound k) tbl_nil)) hf hb hn (fit k) (loops_all lps) (loops k) (eq k)
end impl_refunded

namespace impl_RefundOf
def entry (k : Nat) : Entry := ⟨[.ro (.sl 2 (.int .i64)), .ro (.sl 4 .bool)], [.own (.sl 2 (.int .i64)), .own (.int .i64)], fun (a0, (a1, _)) => f k a0 a1⟩
def env (k : Nat) : Env := ⟨Try.prog, 12, AM.look none [(16, some (impl_ArePayments.entry k)), (57, some (impl_refunded.entry k))], AM.look none []⟩
abbrev R := Res [.own (.sl 2 (.int .i64)), .own (.int .i64)] × Outs [.ro (.sl 2 (.int .i64)), .ro (.sl 4 .bool)]
def L (k : Nat) (q : Nat) (s : St) (K : AExit → St → Option R) : Option R := none
theorem eq (k : Nat) : ∀ a, aexec (env k) (L k) (codeOf Try.f26) (begSt [.ro (.sl 2 (.int .i64)), .ro (.sl 4 .bool)] a) (finK (env k) Try.f26 [.ro (.sl 2 (.int .i64)), .ro (.sl 4 .bool)] [.own (.sl 2 (.int .i64)), .own (.int .i64)]) = (entry k).fn a := by intro a; kernel_rfl
theorem loops (k : Nat) : LoopsOk (env k) (L k) (codeOf Try.f26) := by
  intro c an hc han s K r h
  unfold L at h
  cases h
theorem fit (k : Nat) : codeFit (env k) (codeOf Try.f26) = true := by kernel_rfl
theorem lps : (loopsIn (codeOf Try.f26)).map (fun d => findLoop (firstRegion d) (codeOf Try.f26)) = (loopsIn (codeOf Try.f26)).map some := by kernel_rfl
theorem hf : Try.prog.funcs[26]? = some Try.f26 := by kernel_rfl
theorem hb : Try.f26.body = some (codeOf Try.f26) := by kernel_rfl
theorem hn : (Try.f26.name == "runtime.NumGoroutine") = false := by kernel_rfl
theorem sound (k : Nat) : Sound Try.prog 26 (entry k) := func_sound (E := env k) (by kernel_rfl) (by kernel_rfl) (by kernel_rfl) (tbl_cons (impl_ArePayments.sound k) (tbl_cons (impl_refunded.sound k) tbl_nil)) hf hb hn (fit k) (loops_all lps) (loops k) (eq k)
end impl_RefundOf

namespace laws_markBoolS
def entry (k : Nat) : Entry := ⟨[.io 4 .bool, .ro (.int .i64)], [.own (.int .i64)], fun (a0, (a1, _)) => f k a0 a1⟩
def env (k : Nat) : Env := ⟨Try.prog, 21, AM.look none [], AM.look none [(2, some ⟨[(0, .asis), (1, .asis), (5, .asis)], [(1, .asis)]⟩)]⟩
abbrev R := Res [.own (.int .i64)] × Outs [.io 4 .bool, .ro (.int .i64)]
def sh2 : Shape := ⟨[(0, .ref 0), (1, .val (.int .i64)), (5, .val (.int .i64))], [(0, .row 4 .bool)], 1, [0]⟩
def osh2kx0 : Shape := ⟨[(1, .val (.int .i64))], [(0, .row 4 .bool)], 1, [0]⟩
def un2 : Int × Int × (List Bool) → sh2.V := fun (x1, x5, y0) => (((), (x1, (x5, ()))), (y0, ()))
def fl2 : sh2.V → Int × Int × (List Bool) := fun ((_, (x1, (x5, _))), (y0, _)) => (x1, x5, y0)
def L (k : Nat) (q : Nat) (s : St) (K : AExit → St → Option R) : Option R := bif Nat.beq q 2 then (match sh2.dec s with | some v => l2 (R := R) k k (fl2 v) (fun (x1, y0) => K (.exit 0) (osh2kx0.enc ((x1, ()), (y0, ())))) | none => none) else (none)
theorem step2 (k n : Nat) (K : AExit → St → Option R) : ∀ v, aloop (aexec (env k) (L k) ((findLoop 2 (codeOf Try.f27)).getD .skip)) (normSt [(0, .asis), (1, .asis), (5, .asis)]) (normSt [(1, .asis)]) K (n + 1) (sh2.enc (un2 v)) = s2 (R := R) k (fun w => aloop (aexec (env k) (L k) ((findLoop 2 (codeOf Try.f27)).getD .skip)) (normSt [(0, .asis), (1, .asis), (5, .asis)]) (normSt [(1, .asis)]) K n (sh2.enc (un2 w))) (fun (x1, y0) => K (.exit 0) (osh2kx0.enc ((x1, ()), (y0, ())))) v := by intro v; kernel_rfl
theorem eq (k : Nat) : ∀ a, aexec (env k) (L k) (codeOf Try.f27) (begSt [.io 4 .bool, .ro (.int .i64)] a) (finK (env k) Try.f27 [.io 4 .bool, .ro (.int .i64)] [.own (.int .i64)]) = (entry k).fn a := by intro a; kernel_rfl
theorem run2 (k : Nat) (K : AExit → St → Option R) : ∀ n v, aloop (aexec (env k) (L k) ((findLoop 2 (codeOf Try.f27)).getD .skip)) (normSt [(0, .asis), (1, .asis), (5, .asis)]) (normSt [(1, .asis)]) K n (sh2.enc (un2 v)) = l2 (R := R) k n v (fun (x1, y0) => K (.exit 0) (osh2kx0.enc ((x1, ()), (y0, ())))) := loop_eq (fun n v => aloop (aexec (env k) (L k) ((findLoop 2 (codeOf Try.f27)).getD .skip)) (normSt [(0, .asis), (1, .asis), (5, .asis)]) (normSt [(1, .asis)]) K n (sh2.enc (un2 v))) (fun n v => l2 (R := R) k n v (fun (x1, y0) => K (.exit 0) (osh2kx0.enc ((x1, ()), (y0, ()))))) (fun X v => s2 (R := R) k X (fun (x1, y0) => K (.exit 0) (osh2kx0.enc ((x1, ()), (y0, ())))) v) (fun _ => rfl) (fun n v => step2 k n K v) (fun n v => rfl)
theorem loops (k : Nat) : LoopsOk (env k) (L k) (codeOf Try.f27) := by
  intro c an hc han s K r h
  unfold L at h
  by_cases q2 : firstRegion c = 2
  · have h1 := key_eq q2 h
    rw [q2] at hc han
    have e2 : an = ⟨[(0, .asis), (1, .asis), (5, .asis)], [(1, .asis)]⟩ := (Option.some.inj (show some _ = some an from han)).symm
    have e1 : c = (findLoop 2 (codeOf Try.f27)).getD .skip := by rw [hc]; rfl
    cases hd : sh2.dec s with
    | none => rw [hd] at h1; cases h1
    | some v =>
      rw [hd] at h1
      refine ⟨k, ?_⟩
      rw [e1, e2, Shape.dec_enc _ _ _ hd]
      exact (run2 k K k (fl2 v)).trans h1
  have h := not_key q2 h
  cases h
theorem fit (k : Nat) : codeFit (env k) (codeOf Try.f27) = true := by kernel_rfl
theorem lps : (loopsIn (codeOf Try.f27)).map (fun d => findLoop (firstRegion d) (codeOf Try.f27)) = (loopsIn (codeOf Try.f27)).map some := by kernel_rfl
theorem hf : Try.prog.funcs[27]? = some Try.f27 := by kernel_rfl
theorem hb : Try.f27.body = some (codeOf Try.f27) := by kernel_rfl
theorem hn : (Try.f27.name == "runtime.NumGoroutine") = false := by kernel_rfl
theorem sound (k : Nat) : Sound Try.prog 27 (entry k) := func_sound (E := env k) (by kernel_rfl) (by kernel_rfl) (by kernel_rfl) tbl_nil hf hb hn (fit k) (loops_all lps) (loops k) (eq k)
end laws_markBoolS

namespace laws_FnExactRefundOf
def entry (k : Nat) : Entry := ⟨[.ro (.sl 2 (.int .i64)), .ro (.sl 4 .bool)], [.own .bool], fun (a0, (a1, _)) => f k a0 a1⟩
def env (k : Nat) : Env := ⟨Try.prog, 114, AM.look none [(14, some (laws_toInt64S.entry k)), (15, some (laws_toBoolS.entry k)), (17, some (laws_eqInt64S.entry k)), (18, some (laws_eqBoolS.entry k)), (21, some (laws_markInt64S.entry k)), (22, some (laws_heldInt64S.entry k)), (25, some (spec_RefundOf.entry k)), (26, some (impl_RefundOf.entry k)), (27, some (laws_markBoolS.entry k))], AM.look none []⟩
abbrev R := Res [.own .bool] × Outs [.ro (.sl 2 (.int .i64)), .ro (.sl 4 .bool)]
def L (k : Nat) (q : Nat) (s : St) (K : AExit → St → Option R) : Option R := none
theorem eq (k : Nat) : ∀ a, aexec (env k) (L k) (codeOf Try.f6) (begSt [.ro (.sl 2 (.int .i64)), .ro (.sl 4 .bool)] a) (finK (env k) Try.f6 [.ro (.sl 2 (.int .i64)), .ro (.sl 4 .bool)] [.own .bool]) = (entry k).fn a := by intro a; kernel_rfl
theorem loops (k : Nat) : LoopsOk (env k) (L k) (codeOf Try.f6) := by
  intro c an hc han s K r h
  unfold L at h
  cases h
theorem fit (k : Nat) : codeFit (env k) (codeOf Try.f6) = true := by kernel_rfl
theorem lps : (loopsIn (codeOf Try.f6)).map (fun d => findLoop (firstRegion d) (codeOf Try.f6)) = (loopsIn (codeOf Try.f6)).map some := by kernel_rfl
theorem hf : Try.prog.funcs[6]? = some Try.f6 := by kernel_rfl
theorem hb : Try.f6.body = some (codeOf Try.f6) := by kernel_rfl
theorem hn : (Try.f6.name == "runtime.NumGoroutine") = false := by kernel_rfl
theorem sound (k : Nat) : Sound Try.prog 6 (entry k) := func_sound (E := env k) (by kernel_rfl) (by kernel_rfl) (by kernel_rfl) (tbl_cons (laws_toInt64S.sound k) (tbl_cons (laws_toBoolS.sound k) (tbl_cons (laws_eqInt64S.sound k) (tbl_cons (laws_eqBoolS.sound k) (tbl_cons (laws_markInt64S.sound k) (tbl_cons (laws_heldInt64S.sound k) (tbl_cons (spec_RefundOf.sound k) (tbl_cons (impl_RefundOf.sound k) (tbl_cons (laws_markBoolS.sound k) tbl_nil))))))))) hf hb hn (fit k) (loops_all lps) (loops k) (eq k)
end laws_FnExactRefundOf
end Go.Sh

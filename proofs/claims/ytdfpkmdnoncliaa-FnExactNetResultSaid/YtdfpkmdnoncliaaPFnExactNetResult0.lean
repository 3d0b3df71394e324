/- Each Go function that the law reaches keeps the contract that its Lean function states; conditions: none. -/
import Derived.Test.YtdfpkmdnoncliaaA1
import Derived.Test.YtdfpkmdnoncliaaSFnExactNetResult0
import Derived.Test.YtdfpkmdnoncliaaProg
noncomputable section
set_option linter.unusedVariables false
set_option maxRecDepth 100000
namespace Go.Sh
open Go Go.AM Go.Proofs
namespace laws_toInt64S
def entry (k : Nat) : Entry := ⟨[.ro (.sl 2 (.int .i64))], [.own (.sl 2 (.int .i64))], fun (a0, _) => f k a0⟩
def env (k : Nat) : Env := ⟨Try.prog, 22, AM.look none [], AM.look none [(3, some ⟨[(0, .asis), (3, .asis), (4, .asis)], [(3, .asis)]⟩)]⟩
abbrev R := Res [.own (.sl 2 (.int .i64))] × Outs [.ro (.sl 2 (.int .i64))]
def sh3 : Shape := ⟨[(0, .val (.sl 2 (.int .i64))), (3, .ref 0), (4, .val (.int .i64))], [(0, .row 2 (.int .i64))], 1, []⟩
def osh3kx0 : Shape := ⟨[(3, .ref 0)], [(0, .row 2 (.int .i64))], 1, []⟩
def un3 : (List Int) × Int × (List Int) → sh3.V := fun (x0, x4, y0) => ((x0, ((), (x4, ()))), (y0, ()))
def fl3 : sh3.V → (List Int) × Int × (List Int) := fun ((x0, (_, (x4, _))), (y0, _)) => (x0, x4, y0)
def L (k : Nat) (q : Nat) (s : St) (K : AExit → St → Option R) : Option R := bif Nat.beq q 3 then (match sh3.dec s with | some v => l3 (R := R) k k (fl3 v) (fun y0 => K (.exit 0) (osh3kx0.enc (((), ()), (y0, ())))) | none => none) else (none)
theorem step3 (k n : Nat) (K : AExit → St → Option R) : ∀ v, aloop (aexec (env k) (L k) ((findLoop 3 (codeOf Try.f15)).getD .skip)) (normSt [(0, .asis), (3, .asis), (4, .asis)]) (normSt [(3, .asis)]) K (n + 1) (sh3.enc (un3 v)) = s3 (R := R) k (fun w => aloop (aexec (env k) (L k) ((findLoop 3 (codeOf Try.f15)).getD .skip)) (normSt [(0, .asis), (3, .asis), (4, .asis)]) (normSt [(3, .asis)]) K n (sh3.enc (un3 w))) (fun y0 => K (.exit 0) (osh3kx0.enc (((), ()), (y0, ())))) v := by intro v; kernel_rfl
theorem eq (k : Nat) : ∀ a, aexec (env k) (L k) (codeOf Try.f15) (begSt [.ro (.sl 2 (.int .i64))] a) (finK (env k) Try.f15 [.ro (.sl 2 (.int .i64))] [.own (.sl 2 (.int .i64))]) = (entry k).fn a := by intro a; kernel_rfl
theorem run3 (k : Nat) (K : AExit → St → Option R) : ∀ n v, aloop (aexec (env k) (L k) ((findLoop 3 (codeOf Try.f15)).getD .skip)) (normSt [(0, .asis), (3, .asis), (4, .asis)]) (normSt [(3, .asis)]) K n (sh3.enc (un3 v)) = l3 (R := R) k n v (fun y0 => K (.exit 0) (osh3kx0.enc (((), ()), (y0, ())))) := loop_eq (fun n v => aloop (aexec (env k) (L k) ((findLoop 3 (codeOf Try.f15)).getD .skip)) (normSt [(0, .asis), (3, .asis), (4, .asis)]) (normSt [(3, .asis)]) K n (sh3.enc (un3 v))) (fun n v => l3 (R := R) k n v (fun y0 => K (.exit 0) (osh3kx0.enc (((), ()), (y0, ()))))) (fun X v => s3 (R := R) k X (fun y0 => K (.exit 0) (osh3kx0.enc (((), ()), (y0, ())))) v) (fun _ => rfl) (fun n v => step3 k n K v) (fun n v => rfl)
theorem loops (k : Nat) : LoopsOk (env k) (L k) (codeOf Try.f15) := by
  intro c an hc han s K r h
  unfold L at h
  by_cases q3 : firstRegion c = 3
  · have h1 := key_eq q3 h
    rw [q3] at hc han
    have e2 : an = ⟨[(0, .asis), (3, .asis), (4, .asis)], [(3, .asis)]⟩ := (Option.some.inj (show some _ = some an from han)).symm
    have e1 : c = (findLoop 3 (codeOf Try.f15)).getD .skip := by rw [hc]; rfl
    cases hd : sh3.dec s with
    | none => rw [hd] at h1; cases h1
    | some v =>
      rw [hd] at h1
      refine ⟨k, ?_⟩
      rw [e1, e2, Shape.dec_enc _ _ _ hd]
      exact (run3 k K k (fl3 v)).trans h1
  have h := not_key q3 h
  cases h
theorem fit (k : Nat) : codeFit (env k) (codeOf Try.f15) = true := by kernel_rfl
theorem lps : (loopsIn (codeOf Try.f15)).map (fun d => findLoop (firstRegion d) (codeOf Try.f15)) = (loopsIn (codeOf Try.f15)).map some := by kernel_rfl
theorem hf : Try.prog.funcs[15]? = some Try.f15 := by kernel_rfl
theorem hb : Try.f15.body = some (codeOf Try.f15) := by kernel_rfl
theorem hn : (Try.f15.name == "runtime.NumGoroutine") = false := by kernel_rfl
theorem sound (k : Nat) : Sound Try.prog 15 (entry k) := func_sound (E := env k) (by kernel_rfl) (by kernel_rfl) (by kernel_rfl) tbl_nil hf hb hn (fit k) (loops_all lps) (loops k) (eq k)
end laws_toInt64S

namespace laws_eqInt64S
def entry (k : Nat) : Entry := ⟨[.ro (.sl 2 (.int .i64)), .ro (.sl 2 (.int .i64))], [.own .bool], fun (a0, (a1, _)) => f k a0 a1⟩
def env (k : Nat) : Env := ⟨Try.prog, 26, AM.look none [], AM.look none [(4, some ⟨[(0, .asis), (1, .asis), (5, .asis)], [(4, .asis)]⟩)]⟩
abbrev R := Res [.own .bool] × Outs [.ro (.sl 2 (.int .i64)), .ro (.sl 2 (.int .i64))]
def sh4 : Shape := ⟨[(0, .val (.sl 2 (.int .i64))), (1, .val (.sl 2 (.int .i64))), (5, .val (.int .i64))], [], 0, []⟩
def osh4kx0 : Shape := ⟨[(4, .undef)], [], 0, []⟩
def osh4kr : Shape := ⟨[(4, .val .bool)], [], 0, []⟩
def un4 : (List Int) × (List Int) × Int → sh4.V := fun (x0, x1, x5) => ((x0, (x1, (x5, ()))), ())
def fl4 : sh4.V → (List Int) × (List Int) × Int := fun ((x0, (x1, (x5, _))), _) => (x0, x1, x5)
def L (k : Nat) (q : Nat) (s : St) (K : AExit → St → Option R) : Option R := bif Nat.beq q 4 then (match sh4.dec s with | some v => l4 (R := R) k k (fl4 v) (fun (_ : Unit) => K (.exit 0) (osh4kx0.enc (((), ()), ()))) (fun x4 => K .ret (osh4kr.enc ((x4, ()), ()))) | none => none) else (none)
theorem step4 (k n : Nat) (K : AExit → St → Option R) : ∀ v, aloop (aexec (env k) (L k) ((findLoop 4 (codeOf Try.f18)).getD .skip)) (normSt [(0, .asis), (1, .asis), (5, .asis)]) (normSt [(4, .asis)]) K (n + 1) (sh4.enc (un4 v)) = s4 (R := R) k (fun w => aloop (aexec (env k) (L k) ((findLoop 4 (codeOf Try.f18)).getD .skip)) (normSt [(0, .asis), (1, .asis), (5, .asis)]) (normSt [(4, .asis)]) K n (sh4.enc (un4 w))) (fun (_ : Unit) => K (.exit 0) (osh4kx0.enc (((), ()), ()))) (fun x4 => K .ret (osh4kr.enc ((x4, ()), ()))) v := by intro v; kernel_rfl
theorem eq (k : Nat) : ∀ a, aexec (env k) (L k) (codeOf Try.f18) (begSt [.ro (.sl 2 (.int .i64)), .ro (.sl 2 (.int .i64))] a) (finK (env k) Try.f18 [.ro (.sl 2 (.int .i64)), .ro (.sl 2 (.int .i64))] [.own .bool]) = (entry k).fn a := by intro a; kernel_rfl
theorem run4 (k : Nat) (K : AExit → St → Option R) : ∀ n v, aloop (aexec (env k) (L k) ((findLoop 4 (codeOf Try.f18)).getD .skip)) (normSt [(0, .asis), (1, .asis), (5, .asis)]) (normSt [(4, .asis)]) K n (sh4.enc (un4 v)) = l4 (R := R) k n v (fun (_ : Unit) => K (.exit 0) (osh4kx0.enc (((), ()), ()))) (fun x4 => K .ret (osh4kr.enc ((x4, ()), ()))) := loop_eq (fun n v => aloop (aexec (env k) (L k) ((findLoop 4 (codeOf Try.f18)).getD .skip)) (normSt [(0, .asis), (1, .asis), (5, .asis)]) (normSt [(4, .asis)]) K n (sh4.enc (un4 v))) (fun n v => l4 (R := R) k n v (fun (_ : Unit) => K (.exit 0) (osh4kx0.enc (((), ()), ()))) (fun x4 => K .ret (osh4kr.enc ((x4, ()), ())))) (fun X v => s4 (R := R) k X (fun (_ : Unit) => K (.exit 0) (osh4kx0.enc (((), ()), ()))) (fun x4 => K .ret (osh4kr.enc ((x4, ()), ()))) v) (fun _ => rfl) (fun n v => step4 k n K v) (fun n v => rfl)
theorem loops (k : Nat) : LoopsOk (env k) (L k) (codeOf Try.f18) := by
  intro c an hc han s K r h
  unfold L at h
  by_cases q4 : firstRegion c = 4
  · have h1 := key_eq q4 h
    rw [q4] at hc han
    have e2 : an = ⟨[(0, .asis), (1, .asis), (5, .asis)], [(4, .asis)]⟩ := (Option.some.inj (show some _ = some an from han)).symm
    have e1 : c = (findLoop 4 (codeOf Try.f18)).getD .skip := by rw [hc]; rfl
    cases hd : sh4.dec s with
    | none => rw [hd] at h1; cases h1
    | some v =>
      rw [hd] at h1
      refine ⟨k, ?_⟩
      rw [e1, e2, Shape.dec_enc _ _ _ hd]
      exact (run4 k K k (fl4 v)).trans h1
  have h := not_key q4 h
  cases h
theorem fit (k : Nat) : codeFit (env k) (codeOf Try.f18) = true := by kernel_rfl
theorem lps : (loopsIn (codeOf Try.f18)).map (fun d => findLoop (firstRegion d) (codeOf Try.f18)) = (loopsIn (codeOf Try.f18)).map some := by kernel_rfl
theorem hf : Try.prog.funcs[18]? = some Try.f18 := by kernel_rfl
theorem hb : Try.f18.body = some (codeOf Try.f18) := by kernel_rfl
theorem hn : (Try.f18.name == "runtime.NumGoroutine") = false := by kernel_rfl
theorem sound (k : Nat) : Sound Try.prog 18 (entry k) := func_sound (E := env k) (by kernel_rfl) (by kernel_rfl) (by kernel_rfl) tbl_nil hf hb hn (fit k) (loops_all lps) (loops k) (eq k)
end laws_eqInt64S

namespace spec_l01In
def entry (k : Nat) : Entry := ⟨[.ro (.int .i64), .ro (.int .i64), .ro (.int .i64)], [.own .bool], fun (a0, (a1, (a2, _))) => f k a0 a1 a2⟩
def env (k : Nat) : Env := ⟨Try.prog, 15, AM.look none [], AM.look none []⟩
abbrev R := Res [.own .bool] × Outs [.ro (.int .i64), .ro (.int .i64), .ro (.int .i64)]
def L (k : Nat) (q : Nat) (s : St) (K : AExit → St → Option R) : Option R := none
theorem eq (k : Nat) : ∀ a, aexec (env k) (L k) (codeOf Try.f30) (begSt [.ro (.int .i64), .ro (.int .i64), .ro (.int .i64)] a) (finK (env k) Try.f30 [.ro (.int .i64), .ro (.int .i64), .ro (.int .i64)] [.own .bool]) = (entry k).fn a := by intro a; kernel_rfl
theorem loops (k : Nat) : LoopsOk (env k) (L k) (codeOf Try.f30) := by
  intro c an hc han s K r h
  unfold L at h
  cases h
theorem fit (k : Nat) : codeFit (env k) (codeOf Try.f30) = true := by kernel_rfl
theorem lps : (loopsIn (codeOf Try.f30)).map (fun d => findLoop (firstRegion d) (codeOf Try.f30)) = (loopsIn (codeOf Try.f30)).map some := by kernel_rfl
theorem hf : Try.prog.funcs[30]? = some Try.f30 := by kernel_rfl
theorem hb : Try.f30.body = some (codeOf Try.f30) := by kernel_rfl
theorem hn : (Try.f30.name == "runtime.NumGoroutine") = false := by kernel_rfl
theorem sound (k : Nat) : Sound Try.prog 30 (entry k) := func_sound (E := env k) (by kernel_rfl) (by kernel_rfl) (by kernel_rfl) tbl_nil hf hb hn (fit k) (loops_all lps) (loops k) (eq k)
end spec_l01In

namespace spec_l10Chips
def entry (k : Nat) : Entry := ⟨[.ro (.sl 2 (.int .i64)), .ro (.int .i64)], [.own .bool], fun (a0, (a1, _)) => f k a0 a1⟩
def env (k : Nat) : Env := ⟨Try.prog, 22, AM.look none [(30, some (spec_l01In.entry k))], AM.look none [(2, some ⟨[(0, .asis), (1, .asis), (5, .asis)], [(0, .asis), (1, .asis), (4, .asis)]⟩)]⟩
abbrev R := Res [.own .bool] × Outs [.ro (.sl 2 (.int .i64)), .ro (.int .i64)]
def sh2 : Shape := ⟨[(0, .val (.sl 2 (.int .i64))), (1, .val (.int .i64)), (5, .val (.int .i64))], [], 0, []⟩
def osh2kx0 : Shape := ⟨[(0, .val (.sl 2 (.int .i64))), (1, .val (.int .i64)), (4, .undef)], [], 0, []⟩
def osh2kr : Shape := ⟨[(0, .val (.sl 2 (.int .i64))), (1, .val (.int .i64)), (4, .val .bool)], [], 0, []⟩
def un2 : (List Int) × Int × Int → sh2.V := fun (x0, x1, x5) => ((x0, (x1, (x5, ()))), ())
def fl2 : sh2.V → (List Int) × Int × Int := fun ((x0, (x1, (x5, _))), _) => (x0, x1, x5)
def L (k : Nat) (q : Nat) (s : St) (K : AExit → St → Option R) : Option R := bif Nat.beq q 2 then (match sh2.dec s with | some v => l2 (R := R) k k (fl2 v) (fun (x0, x1) => K (.exit 0) (osh2kx0.enc ((x0, (x1, ((), ()))), ()))) (fun (x0, x1, x4) => K .ret (osh2kr.enc ((x0, (x1, (x4, ()))), ()))) | none => none) else (none)
theorem step2 (k n : Nat) (K : AExit → St → Option R) : ∀ v, aloop (aexec (env k) (L k) ((findLoop 2 (codeOf Try.f31)).getD .skip)) (normSt [(0, .asis), (1, .asis), (5, .asis)]) (normSt [(0, .asis), (1, .asis), (4, .asis)]) K (n + 1) (sh2.enc (un2 v)) = s2 (R := R) k (fun w => aloop (aexec (env k) (L k) ((findLoop 2 (codeOf Try.f31)).getD .skip)) (normSt [(0, .asis), (1, .asis), (5, .asis)]) (normSt [(0, .asis), (1, .asis), (4, .asis)]) K n (sh2.enc (un2 w))) (fun (x0, x1) => K (.exit 0) (osh2kx0.enc ((x0, (x1, ((), ()))), ()))) (fun (x0, x1, x4) => K .ret (osh2kr.enc ((x0, (x1, (x4, ()))), ()))) v := by intro v; kernel_rfl
theorem eq (k : Nat) : ∀ a, aexec (env k) (L k) (codeOf Try.f31) (begSt [.ro (.sl 2 (.int .i64)), .ro (.int .i64)] a) (finK (env k) Try.f31 [.ro (.sl 2 (.int .i64)), .ro (.int .i64)] [.own .bool]) = (entry k).fn a := by intro a; kernel_rfl
theorem run2 (k : Nat) (K : AExit → St → Option R) : ∀ n v, aloop (aexec (env k) (L k) ((findLoop 2 (codeOf Try.f31)).getD .skip)) (normSt [(0, .asis), (1, .asis), (5, .asis)]) (normSt [(0, .asis), (1, .asis), (4, .asis)]) K n (sh2.enc (un2 v)) = l2 (R := R) k n v (fun (x0, x1) => K (.exit 0) (osh2kx0.enc ((x0, (x1, ((), ()))), ()))) (fun (x0, x1, x4) => K .ret (osh2kr.enc ((x0, (x1, (x4, ()))), ()))) := loop_eq (fun n v => aloop (aexec (env k) (L k) ((findLoop 2 (codeOf Try.f31)).getD .skip)) (normSt [(0, .asis), (1, .asis), (5, .asis)]) (normSt [(0, .asis), (1, .asis), (4, .asis)]) K n (sh2.enc (un2 v))) (fun n v => l2 (R := R) k n v (fun (x0, x1) => K (.exit 0) (osh2kx0.enc ((x0, (x1, ((), ()))), ()))) (fun (x0, x1, x4) => K .ret (osh2kr.enc ((x0, (x1, (x4, ()))), ())))) (fun X v => s2 (R := R) k X (fun (x0, x1) => K (.exit 0) (osh2kx0.enc ((x0, (x1, ((), ()))), ()))) (fun (x0, x1, x4) => K .ret (osh2kr.enc ((x0, (x1, (x4, ()))), ()))) v) (fun _ => rfl) (fun n v => step2 k n K v) (fun n v => rfl)
theorem loops (k : Nat) : LoopsOk (env k) (L k) (codeOf Try.f31) := by
  intro c an hc han s K r h
  unfold L at h
  by_cases q2 : firstRegion c = 2
  · have h1 := key_eq q2 h
    rw [q2] at hc han
    have e2 : an = ⟨[(0, .asis), (1, .asis), (5, .asis)], [(0, .asis), (1, .asis), (4, .asis)]⟩ := (Option.some.inj (show some _ = some an from han)).symm
    have e1 : c = (findLoop 2 (codeOf Try.f31)).getD .skip := by rw [hc]; rfl
    cases hd : sh2.dec s with
    | none => rw [hd] at h1; cases h1
    | some v =>
      rw [hd] at h1
      refine ⟨k, ?_⟩
      rw [e1, e2, Shape.dec_enc _ _ _ hd]
      exact (run2 k K k (fl2 v)).trans h1
  have h := not_key q2 h
  cases h
theorem fit (k : Nat) : codeFit (env k) (codeOf Try.f31) = true := by kernel_rfl
theorem lps : (loopsIn (codeOf Try.f31)).map (fun d => findLoop (firstRegion d) (codeOf Try.f31)) = (loopsIn (codeOf Try.f31)).map some := by kernel_rfl
theorem hf : Try.prog.funcs[31]? = some Try.f31 := by kernel_rfl
theorem hb : Try.f31.body = some (codeOf Try.f31) := by kernel_rfl
theorem hn : (Try.f31.name == "runtime.NumGoroutine") = false := by kernel_rfl
theorem sound (k : Nat) : Sound Try.prog 31 (entry k) := func_sound (E := env k) (by kernel_rfl) (by kernel_rfl) (by kernel_rfl) (tbl_cons (spec_l01In.sound k) tbl_nil) hf hb hn (fit k) (loops_all lps) (loops k) (eq k)
end spec_l10Chips

namespace spec_l01Sum
def entry (k : Nat) : Entry := ⟨[.ro (.sl 2 (.int .i64))], [.own (.int .i64)], fun (a0, _) => f k a0⟩
def env (k : Nat) : Env := ⟨Try.prog, 18, AM.look none [], AM.look none [(3, some ⟨[(0, .asis), (3, .asis), (4, .asis)], [(3, .asis)]⟩)]⟩
abbrev R := Res [.own (.int .i64)] × Outs [.ro (.sl 2 (.int .i64))]
def sh3 : Shape := ⟨[(0, .val (.sl 2 (.int .i64))), (3, .val (.int .i64)), (4, .val (.int .i64))], [], 0, []⟩
def osh3kx0 : Shape := ⟨[(3, .val (.int .i64))], [], 0, []⟩
def un3 : (List Int) × Int × Int → sh3.V := fun (x0, x3, x4) => ((x0, (x3, (x4, ()))), ())
def fl3 : sh3.V → (List Int) × Int × Int := fun ((x0, (x3, (x4, _))), _) => (x0, x3, x4)
def L (k : Nat) (q : Nat) (s : St) (K : AExit → St → Option R) : Option R := bif Nat.beq q 3 then (match sh3.dec s with | some v => l3 (R := R) k k (fl3 v) (fun x3 => K (.exit 0) (osh3kx0.enc ((x3, ()), ()))) | none => none) else (none)
theorem step3 (k n : Nat) (K : AExit → St → Option R) : ∀ v, aloop (aexec (env k) (L k) ((findLoop 3 (codeOf Try.f34)).getD .skip)) (normSt [(0, .asis), (3, .asis), (4, .asis)]) (normSt [(3, .asis)]) K (n + 1) (sh3.enc (un3 v)) = s3 (R := R) k (fun w => aloop (aexec (env k) (L k) ((findLoop 3 (codeOf Try.f34)).getD .skip)) (normSt [(0, .asis), (3, .asis), (4, .asis)]) (normSt [(3, .asis)]) K n (sh3.enc (un3 w))) (fun x3 => K (.exit 0) (osh3kx0.enc ((x3, ()), ()))) v := by intro v; kernel_rfl
theorem eq (k : Nat) : ∀ a, aexec (env k) (L k) (codeOf Try.f34) (begSt [.ro (.sl 2 (.int .i64))] a) (finK (env k) Try.f34 [.ro (.sl 2 (.int .i64))] [.own (.int .i64)]) = (entry k).fn a := by intro a; kernel_rfl
theorem run3 (k : Nat) (K : AExit → St → Option R) : ∀ n v, aloop (aexec (env k) (L k) ((findLoop 3 (codeOf Try.f34)).getD .skip)) (normSt [(0, .asis), (3, .asis), (4, .asis)]) (normSt [(3, .asis)]) K n (sh3.enc (un3 v)) = l3 (R := R) k n v (fun x3 => K (.exit 0) (osh3kx0.enc ((x3, ()), ()))) := loop_eq (fun n v => aloop (aexec (env k) (L k) ((findLoop 3 (codeOf Try.f34)).getD .skip)) (normSt [(0, .asis), (3, .asis), (4, .asis)]) (normSt [(3, .asis)]) K n (sh3.enc (un3 v))) (fun n v => l3 (R := R) k n v (fun x3 => K (.exit 0) (osh3kx0.enc ((x3, ()), ())))) (fun X v => s3 (R := R) k X (fun x3 => K (.exit 0) (osh3kx0.enc ((x3, ()), ()))) v) (fun _ => rfl) (fun n v => step3 k n K v) (fun n v => rfl)
theorem loops (k : Nat) : LoopsOk (env k) (L k) (codeOf Try.f34) := by
  intro c an hc han s K r h
  unfold L at h
  by_cases q3 : firstRegion c = 3
  · have h1 := key_eq q3 h
    rw [q3] at hc han
    have e2 : an = ⟨[(0, .asis), (3, .asis), (4, .asis)], [(3, .asis)]⟩ := (Option.some.inj (show some _ = some an from han)).symm
    have e1 : c = (findLoop 3 (codeOf Try.f34)).getD .skip := by rw [hc]; rfl
    cases hd : sh3.dec s with
    | none => rw [hd] at h1; cases h1
    | some v =>
      rw [hd] at h1
      refine ⟨k, ?_⟩
      rw [e1, e2, Shape.dec_enc _ _ _ hd]
      exact (run3 k K k (fl3 v)).trans h1
  have h := not_key q3 h
  cases h
theorem fit (k : Nat) : codeFit (env k) (codeOf Try.f34) = true := by kernel_rfl
theorem lps : (loopsIn (codeOf Try.f34)).map (fun d => findLoop (firstRegion d) (codeOf Try.f34)) = (loopsIn (codeOf Try.f34)).map some := by kernel_rfl
theorem hf : Try.prog.funcs[34]? = some Try.f34 := by kernel_rfl
theorem hb : Try.f34.body = some (codeOf Try.f34) := by kernel_rfl
theorem hn : (Try.f34.name == "runtime.NumGoroutine") = false := by kernel_rfl
theorem sound (k : Nat) : Sound Try.prog 34 (entry k) := func_sound (E := env k) (by kernel_rfl) (by kernel_rfl) (by kernel_rfl) tbl_nil hf hb hn (fit k) (loops_all lps) (loops k) (eq k)
end spec_l01Sum

namespace spec_NetResult
def entry (k : Nat) : Entry := ⟨[.ro (.sl 2 (.int .i64)), .ro (.sl 2 (.int .i64))], [.own (.sl 2 (.int .i64)), .own (.int .i64)], fun (a0, (a1, _)) => f k a0 a1⟩
def env (k : Nat) : Env := ⟨Try.prog, 50, AM.look none [(31, some (spec_l10Chips.entry k)), (34, some (spec_l01Sum.entry k))], AM.look none [(7, some ⟨[(0, .asis), (1, .asis), (6, .asis), (7, .asis)], [(6, .asis)]⟩)]⟩
abbrev R := Res [.own (.sl 2 (.int .i64)), .own (.int .i64)] × Outs [.ro (.sl 2 (.int .i64)), .ro (.sl 2 (.int .i64))]
def sh7 : Shape := ⟨[(0, .val (.sl 2 (.int .i64))), (1, .val (.sl 2 (.int .i64))), (6, .ref 0), (7, .val (.int .i64))], [(0, .row 2 (.int .i64))], 1, []⟩
def osh7kx0 : Shape := ⟨[(6, .ref 0)], [(0, .row 2 (.int .i64))], 1, []⟩
def un7 : (List Int) × (List Int) × Int × (List Int) → sh7.V := fun (x0, x1, x7, y0) => ((x0, (x1, ((), (x7, ())))), (y0, ()))
def fl7 : sh7.V → (List Int) × (List Int) × Int × (List Int) := fun ((x0, (x1, (_, (x7, _)))), (y0, _)) => (x0, x1, x7, y0)
def L (k : Nat) (q : Nat) (s : St) (K : AExit → St → Option R) : Option R := bif Nat.beq q 7 then (match sh7.dec s with | some v => l7 (R := R) k k (fl7 v) (fun y0 => K (.exit 0) (osh7kx0.enc (((), ()), (y0, ())))) | none => none) else (none)
theorem step7 (k n : Nat) (K : AExit → St → Option R) : ∀ v, aloop (aexec (env k) (L k) ((findLoop 7 (codeOf Try.f20)).getD .skip)) (normSt [(0, .asis), (1, .asis), (6, .asis), (7, .asis)]) (normSt [(6, .asis)]) K (n + 1) (sh7.enc (un7 v)) = s7 (R := R) k (fun w => aloop (aexec (env k) (L k) ((findLoop 7 (codeOf Try.f20)).getD .skip)) (normSt [(0, .asis), (1, .asis), (6, .asis), (7, .asis)]) (normSt [(6, .asis)]) K n (sh7.enc (un7 w))) (fun y0 => K (.exit 0) (osh7kx0.enc (((), ()), (y0, ())))) v := by intro v; kernel_rfl
theorem eq (k : Nat) : ∀ a, aexec (env k) (L k) (codeOf Try.f20) (begSt [.ro (.sl 2 (.int .i64)), .ro (.sl 2 (.int .i64))] a) (finK (env k) Try.f20 [.ro (.sl 2 (.int .i64)), .ro (.sl 2 (.int .i64))] [.own (.sl 2 (.int .i64)), .own (.int .i64)]) = (entry k).fn a := by intro a; kernel_rfl
theorem run7 (k : Nat) (K : AExit → St → Option R) : ∀ n v, aloop (aexec (env k) (L k) ((findLoop 7 (codeOf Try.f20)).getD .skip)) (normSt [(0, .asis), (1, .asis), (6, .asis), (7, .asis)]) (normSt [(6, .asis)]) K n (sh7.enc (un7 v)) = l7 (R := R) k n v (fun y0 => K (.exit 0) (osh7kx0.enc (((), ()), (y0, ())))) := loop_eq (fun n v => aloop (aexec (env k) (L k) ((findLoop 7 (codeOf Try.f20)).getD .skip)) (normSt [(0, .asis), (1, .asis), (6, .asis), (7, .asis)]) (normSt [(6, .asis)]) K n (sh7.enc (un7 v))) (fun n v => l7 (R := R) k n v (fun y0 => K (.exit 0) (osh7kx0.enc (((), ()), (y0, ()))))) (fun X v => s7 (R := R) k X (fun y0 => K (.exit 0) (osh7kx0.enc (((), ()), (y0, ())))) v) (fun _ => rfl) (fun n v => step7 k n K v) (fun n v => rfl)
theorem loops (k : Nat) : LoopsOk (env k) (L k) (codeOf Try.f20) := by
  intro c an hc han s K r h
  unfold L at h
  by_cases q7 : firstRegion c = 7
  · have h1 := key_eq q7 h
    rw [q7] at hc han
    have e2 : an = ⟨[(0, .asis), (1, .asis), (6, .asis), (7, .asis)], [(6, .asis)]⟩ := (Option.some.inj (show some _ = some an from han)).symm
    have e1 : c = (findLoop 7 (codeOf Try.f20)).getD .skip := by rw [hc]; rfl
    cases hd : sh7.dec s with
    | none => rw [hd] at h1; cases h1
    | some v =>
      rw [hd] at h1
      refine ⟨k, ?_⟩
      rw [e1, e2, Shape.dec_enc _ _ _ hd]
      exact (run7 k K k (fl7 v)).trans h1
  have h := not_key q7 h
  cases h
theorem fit (k : Nat) : codeFit (env k) (codeOf Try.f20) = true := by kernel_rfl
theorem lps : (loopsIn (codeOf Try.f20)).map (fun d => findLoop (firstRegion d) (codeOf Try.f20)) = (loopsIn (codeOf Try.f20)).map some := by kernel_rfl
theorem hf : Try.prog.funcs[20]? = some Try.f20 := by kernel_rfl
theorem hb : Try.f20.body = some (codeOf Try.f20) := by kernel_rfl
theorem hn : (Try.f20.name == "runtime.NumGoroutine") = false := by kernel_rfl
theorem sound (k : Nat) : Sound Try.prog 20 (entry k) := func_sound (E := env k) (by kernel_rfl) (by kernel_rfl) (by kernel_rfl) (tbl_cons (spec_l10Chips.sound k) (tbl_cons (spec_l01Sum.sound k) tbl_nil)) hf hb hn (fit k) (loops_all lps) (loops k) (eq k)
end spec_NetResult

namespace impl_within
def entry (k : Nat) : Entry := ⟨[.ro (.int .i64), .ro (.int .i64), .ro (.int .i64)], [.own .bool], fun (a0, (a1, (a2, _))) => f k a0 a1 a2⟩
def env (k : Nat) : Env := ⟨Try.prog, 15, AM.look none [], AM.look none []⟩
abbrev R := Res [.own .bool] × Outs [.ro (.int .i64), .ro (.int .i64), .ro (.int .i64)]
def L (k : Nat) (q : Nat) (s : St) (K : AExit → St → Option R) : Option R := none
theorem eq (k : Nat) : ∀ a, aexec (env k) (L k) (codeOf Try.f32) (begSt [.ro (.int .i64), .ro (.int .i64), .ro (.int .i64)] a) (finK (env k) Try.f32 [.ro (.int .i64), .ro (.int .i64), .ro (.int .i64)] [.own .bool]) = (entry k).fn a := by intro a; kernel_rfl
theorem loops (k : Nat) : LoopsOk (env k) (L k) (codeOf Try.f32) := by
  intro c an hc han s K r h
  unfold L at h
  cases h
theorem fit (k : Nat) : codeFit (env k) (codeOf Try.f32) = true := by kernel_rfl
theorem lps : (loopsIn (codeOf Try.f32)).map (fun d => findLoop (firstRegion d) (codeOf Try.f32)) = (loopsIn (codeOf Try.f32)).map some := by kernel_rfl
theorem hf : Try.prog.funcs[32]? = some Try.f32 := by kernel_rfl
theorem hb : Try.f32.body = some (codeOf Try.f32) := by kernel_rfl
theorem hn : (Try.f32.name == "runtime.NumGoroutine") = false := by kernel_rfl
theorem sound (k : Nat) : Sound Try.prog 32 (entry k) := func_sound (E := env k) (by kernel_rfl) (by kernel_rfl) (by kernel_rfl) tbl_nil hf hb hn (fit k) (loops_all lps) (loops k) (eq k)
end impl_within

namespace impl_allWithin
def entry (k : Nat) : Entry := ⟨[.ro (.sl 2 (.int .i64)), .ro (.int .i64), .ro (.int .i64)], [.own .bool], fun (a0, (a1, (a2, _))) => f k a0 a1 a2⟩
def env (k : Nat) : Env := ⟨Try.prog, 21, AM.look none [(32, some (impl_within.entry k))], AM.look none [(2, some ⟨[(1, .asis), (2, .asis), (9, .asis), (10, .asis), (11, .asis)], [(6, .asis)]⟩)]⟩
abbrev R := Res [.own .bool] × Outs [.ro (.sl 2 (.int .i64)), .ro (.int .i64), .ro (.int .i64)]
def sh2 : Shape := ⟨[(1, .val (.int .i64)), (2, .val (.int .i64)), (9, .val (.sl 2 (.int .i64))), (10, .val (.int .i64)), (11, .val (.int .i64))], [], 0, []⟩
def osh2kx0 : Shape := ⟨[(6, .undef)], [], 0, []⟩
def osh2kr : Shape := ⟨[(6, .val .bool)], [], 0, []⟩
def un2 : Int × Int × (List Int) × Int × Int → sh2.V := fun (x1, x2, x9, x10, x11) => ((x1, (x2, (x9, (x10, (x11, ()))))), ())
def fl2 : sh2.V → Int × Int × (List Int) × Int × Int := fun ((x1, (x2, (x9, (x10, (x11, _))))), _) => (x1, x2, x9, x10, x11)
def L (k : Nat) (q : Nat) (s : St) (K : AExit → St → Option R) : Option R := bif Nat.beq q 2 then (match sh2.dec s with | some v => l2 (R := R) k k (fl2 v) (fun (_ : Unit) => K (.exit 0) (osh2kx0.enc (((), ()), ()))) (fun x6 => K .ret (osh2kr.enc ((x6, ()), ()))) | none => none) else (none)
theorem step2 (k n : Nat) (K : AExit → St → Option R) : ∀ v, aloop (aexec (env k) (L k) ((findLoop 2 (codeOf Try.f33)).getD .skip)) (normSt [(1, .asis), (2, .asis), (9, .asis), (10, .asis), (11, .asis)]) (normSt [(6, .asis)]) K (n + 1) (sh2.enc (un2 v)) = s2 (R := R) k (fun w => aloop (aexec (env k) (L k) ((findLoop 2 (codeOf Try.f33)).getD .skip)) (normSt [(1, .asis), (2, .asis), (9, .asis), (10, .asis), (11, .asis)]) (normSt [(6, .asis)]) K n (sh2.enc (un2 w))) (fun (_ : Unit) => K (.exit 0) (osh2kx0.enc (((), ()), ()))) (fun x6 => K .ret (osh2kr.enc ((x6, ()), ()))) v := by intro v; kernel_rfl
theorem eq (k : Nat) : ∀ a, aexec (env k) (L k) (codeOf Try.f33) (begSt [.ro (.sl 2 (.int .i64)), .ro (.int .i64), .ro (.int .i64)] a) (finK (env k) Try.f33 [.ro (.sl 2 (.int .i64)), .ro (.int .i64), .ro (.int .i64)] [.own .bool]) = (entry k).fn a := by intro a; kernel_rfl
theorem run2 (k : Nat) (K : AExit → St → Option R) : ∀ n v, aloop (aexec (env k) (L k) ((findLoop 2 (codeOf Try.f33)).getD .skip)) (normSt [(1, .asis), (2, .asis), (9, .asis), (10, .asis), (11, .asis)]) (normSt [(6, .asis)]) K n (sh2.enc (un2 v)) = l2 (R := R) k n v (fun (_ : Unit) => K (.exit 0) (osh2kx0.enc (((), ()), ()))) (fun x6 => K .ret (osh2kr.enc ((x6, ()), ()))) := loop_eq (fun n v => aloop (aexec (env k) (L k) ((findLoop 2 (codeOf Try.f33)).getD .skip)) (normSt [(1, .asis), (2, .asis), (9, .asis), (10, .asis), (11, .asis)]) (normSt [(6, .asis)]) K n (sh2.enc (un2 v))) (fun n v => l2 (R := R) k n v (fun (_ : Unit) => K (.exit 0) (osh2kx0.enc (((), ()), ()))) (fun x6 => K .ret (osh2kr.enc ((x6, ()), ())))) (fun X v => s2 (R := R) k X (fun (_ : Unit) => K (.exit 0) (osh2kx0.enc (((), ()), ()))) (fun x6 => K .ret (osh2kr.enc ((x6, ()), ()))) v) (fun _ => rfl) (fun n v => step2 k n K v) (fun n v => rfl)
theorem loops (k : Nat) : LoopsOk (env k) (L k) (codeOf Try.f33) := by
  intro c an hc han s K r h
  unfold L at h
  by_cases q2 : firstRegion c = 2
  · have h1 := key_eq q2 h
    rw [q2] at hc han
    have e2 : an = ⟨[(1, .asis), (2, .asis), (9, .asis), (10, .asis), (11, .asis)], [(6, .asis)]⟩ := (Option.some.inj (show some _ = some an from han)).symm
    have e1 : c = (findLoop 2 (codeOf Try.f33)).getD .skip := by rw [hc]; rfl
    cases hd : sh2.dec s with
    | none => rw [hd] at h1; cases h1
    | some v =>
      rw [hd] at h1
      refine ⟨k, ?_⟩
      rw [e1, e2, Shape.dec_enc _ _ _ hd]
      exact (run2 k K k (fl2 v)).trans h1
  have h := not_key q2 h
  cases h
theorem fit (k : Nat) : codeFit (env k) (codeOf Try.f33) = true := by kernel_rfl
theorem lps : (loopsIn (codeOf Try.f33)).map (fun d => findLoop (firstRegion d) (codeOf Try.f33)) = (loopsIn (codeOf Try.f33)).map some := by kernel_rfl
theorem hf : Try.prog.funcs[33]? = some Try.f33 := by kernel_rfl
theorem hb : Try.f33.body = some (codeOf Try.f33) := by kernel_rfl
theorem hn : (Try.f33.name == "runtime.NumGoroutine") = false := by kernel_rfl
theorem sound (k : Nat) : Sound Try.prog 33 (entry k) := func_sound (E := env k) (by kernel_rfl) (by kernel_rfl) (by kernel_rfl) (tbl_cons (impl_within.sound k) tbl_nil) hf hb hn (fit k) (loops_all lps) (loops k) (eq k)
end impl_allWithin

namespace impl_sumOf
def entry (k : Nat) : Entry := ⟨[.ro (.sl 2 (.int .i64))], [.own (.int .i64)], fun (a0, _) => f k a0⟩
def env (k : Nat) : Env := ⟨Try.prog, 17, AM.look none [], AM.look none [(3, some ⟨[(3, .asis), (6, .asis), (7, .asis), (8, .asis)], [(3, .asis)]⟩)]⟩
abbrev R := Res [.own (.int .i64)] × Outs [.ro (.sl 2 (.int .i64))]
def sh3 : Shape := ⟨[(3, .val (.int .i64)), (6, .val (.sl 2 (.int .i64))), (7, .val (.int .i64)), (8, .val (.int .i64))], [], 0, []⟩
def osh3kx0 : Shape := ⟨[(3, .val (.int .i64))], [], 0, []⟩
def un3 : Int × (List Int) × Int × Int → sh3.V := fun (x3, x6, x7, x8) => ((x3, (x6, (x7, (x8, ())))), ())
def fl3 : sh3.V → Int × (List Int) × Int × Int := fun ((x3, (x6, (x7, (x8, _)))), _) => (x3, x6, x7, x8)
def L (k : Nat) (q : Nat) (s : St) (K : AExit → St → Option R) : Option R := bif Nat.beq q 3 then (match sh3.dec s with | some v => l3 (R := R) k k (fl3 v) (fun x3 => K (.exit 0) (osh3kx0.enc ((x3, ()), ()))) | none => none) else (none)
theorem step3 (k n : Nat) (K : AExit → St → Option R) : ∀ v, aloop (aexec (env k) (L k) ((findLoop 3 (codeOf Try.f35)).getD .skip)) (normSt [(3, .asis), (6, .asis), (7, .asis), (8, .asis)]) (normSt [(3, .asis)]) K (n + 1) (sh3.enc (un3 v)) = s3 (R := R) k (fun w => aloop (aexec (env k) (L k) ((findLoop 3 (codeOf Try.f35)).getD .skip)) (normSt [(3, .asis), (6, .asis), (7, .asis), (8, .asis)]) (normSt [(3, .asis)]) K n (sh3.enc (un3 w))) (fun x3 => K (.exit 0) (osh3kx0.enc ((x3, ()), ()))) v := by intro v; kernel_rfl
theorem eq (k : Nat) : ∀ a, aexec (env k) (L k) (codeOf Try.f35) (begSt [.ro (.sl 2 (.int .i64))] a) (finK (env k) Try.f35 [.ro (.sl 2 (.int .i64))] [.own (.int .i64)]) = (entry k).fn a := by intro a; kernel_rfl
theorem run3 (k : Nat) (K : AExit → St → Option R) : ∀ n v, aloop (aexec (env k) (L k) ((findLoop 3 (codeOf Try.f35)).getD .skip)) (normSt [(3, .asis), (6, .asis), (7, .asis), (8, .asis)]) (normSt [(3, .asis)]) K n (sh3.enc (un3 v)) = l3 (R := R) k n v (fun x3 => K (.exit 0) (osh3kx0.enc ((x3, ()), ()))) := loop_eq (fun n v => aloop (aexec (env k) (L k) ((findLoop 3 (codeOf Try.f35)).getD .skip)) (normSt [(3, .asis), (6, .asis), (7, .asis), (8, .asis)]) (normSt [(3, .asis)]) K n (sh3.enc (un3 v))) (fun n v => l3 (R := R) k n v (fun x3 => K (.exit 0) (osh3kx0.enc ((x3, ()), ())))) (fun X v => s3 (R := R) k X (fun x3 => K (.exit 0) (osh3kx0.enc ((x3, ()), ()))) v) (fun _ => rfl) (fun n v => step3 k n K v) (fun n v => rfl)
theorem loops (k : Nat) : LoopsOk (env k) (L k) (codeOf Try.f35) := by
  intro c an hc han s K r h
  unfold L at h
  by_cases q3 : firstRegion c = 3
  · have h1 := key_eq q3 h
    rw [q3] at hc han
    have e2 : an = ⟨[(3, .asis), (6, .asis), (7, .asis), (8, .asis)], [(3, .asis)]⟩ := (Option.some.inj (show some _ = some an from han)).symm
    have e1 : c = (findLoop 3 (codeOf Try.f35)).getD .skip := by rw [hc]; rfl
    cases hd : sh3.dec s with
    | none => rw [hd] at h1; cases h1
    | some v =>
      rw [hd] at h1
      refine ⟨k, ?_⟩
      rw [e1, e2, Shape.dec_enc _ _ _ hd]
      exact (run3 k K k (fl3 v)).trans h1
  have h := not_key q3 h
  cases h
theorem fit (k : Nat) : codeFit (env k) (codeOf Try.f35) = true := by kernel_rfl
theorem lps : (loopsIn (codeOf Try.f35)).map (fun d => findLoop (firstRegion d) (codeOf Try.f35)) = (loopsIn (codeOf Try.f35)).map some := by kernel_rfl
theorem hf : Try.prog.funcs[35]? = some Try.f35 := by kernel_rfl
theorem hb : Try.f35.body = some (codeOf Try.f35) := by kernel_rfl
theorem hn : (Try.f35.name == "runtime.NumGoroutine") = false := by kernel_rfl
theorem sound (k : Nat) : Sound Try.prog 35 (entry k) := func_sound (E := env k) (by kernel_rfl) (by kernel_rfl) (by kernel_rfl) tbl_nil hf hb hn (fit k) (loops_all lps) (loops k) (eq k)
end impl_sumOf

namespace slices_Clone_int64_int64
def entry (k : Nat) : Entry := ⟨[.ro (.sl 2 (.int .i64))], [.own (.sl 2 (.int .i64))], fun (a0, _) => f k a0⟩
def env (k : Nat) : Env := ⟨Try.prog, 8, AM.look none [], AM.look none []⟩
abbrev R := Res [.own (.sl 2 (.int .i64))] × Outs [.ro (.sl 2 (.int .i64))]
def L (k : Nat) (q : Nat) (s : St) (K : AExit → St → Option R) : Option R := none
theorem eq (k : Nat) : ∀ a, aexec (env k) (L k) (codeOf Try.f36) (begSt [.ro (.sl 2 (.int .i64))] a) (finK (env k) Try.f36 [.ro (.sl 2 (.int .i64))] [.own (.sl 2 (.int .i64))]) = (entry k).fn a := by intro a; kernel_rfl
theorem loops (k : Nat) : LoopsOk (env k) (L k) (codeOf Try.f36) := by
  intro c an hc han s K r h
  unfold L at h
  cases h
theorem fit (k : Nat) : codeFit (env k) (codeOf Try.f36) = true := by kernel_rfl
theorem lps : (loopsIn (codeOf Try.f36)).map (fun d => findLoop (firstRegion d) (codeOf Try.f36)) = (loopsIn (codeOf Try.f36)).map some := by kernel_rfl
theorem hf : Try.prog.funcs[36]? = some Try.f36 := by kernel_rfl
theorem hb : Try.f36.body = some (codeOf Try.f36) := by kernel_rfl
theorem hn : (Try.f36.name == "runtime.NumGoroutine") = false := by kernel_rfl
theorem sound (k : Nat) : Sound Try.prog 36 (entry k) := func_sound (E := env k) (by kernel_rfl) (by kernel_rfl) (by kernel_rfl) tbl_nil hf hb hn (fit k) (loops_all lps) (loops k) (eq k)
end slices_Clone_int64_int64

namespace impl_NetResult
def entry (k : Nat) : Entry := ⟨[.ro (.sl 2 (.int .i64)), .ro (.sl 2 (.int .i64))], [.own (.sl 2 (.int .i64)), .own (.int .i64)], fun (a0, (a1, _)) => f k a0 a1⟩
def env (k : Nat) : Env := ⟨Try.prog, 52, AM.look none [(33, some (impl_allWithin.entry k)), (35, some (impl_sumOf.entry k)), (36, some (slices_Clone_int64_int64.entry k))], AM.look none [(7, some ⟨[(6, .asis), (36, .asis), (37, .asis), (38, .asis)], [(6, .asis)]⟩)]⟩
abbrev R := Res [.own (.sl 2 (.int .i64)), .own (.int .i64)] × Outs [.ro (.sl 2 (.int .i64)), .ro (.sl 2 (.int .i64))]
def sh7 : Shape := ⟨[(6, .ref 0), (36, .val (.sl 2 (.int .i64))), (37, .val (.int .i64)), (38, .val (.int .i64))], [(0, .row 2 (.int .i64))], 1, []⟩
def osh7kx0 : Shape := ⟨[(6, .ref 0)], [(0, .row 2 (.int .i64))], 1, []⟩
def un7 : (List Int) × Int × Int × (List Int) → sh7.V := fun (x36, x37, x38, y0) => (((), (x36, (x37, (x38, ())))), (y0, ()))
def fl7 : sh7.V → (List Int) × Int × Int × (List Int) := fun ((_, (x36, (x37, (x38, _)))), (y0, _)) => (x36, x37, x38, y0)
def L (k : Nat) (q : Nat) (s : St) (K : AExit → St → Option R) : Option R := bif Nat.beq q 7 then (match sh7.dec s with | some v => l7 (R := R) k k (fl7 v) (fun y0 => K (.exit 0) (osh7kx0.enc (((), ()), (y0, ())))) | none => none) else (none)
theorem step7 (k n : Nat) (K : AExit → St → Option R) : ∀ v, aloop (aexec (env k) (L k) ((findLoop 7 (codeOf Try.f21)).getD .skip)) (normSt [(6, .asis), (36, .asis), (37, .asis), (38, .asis)]) (normSt [(6, .asis)]) K (n + 1) (sh7.enc (un7 v)) = s7 (R := R) k (fun w => aloop (aexec (env k) (L k) ((findLoop 7 (codeOf Try.f21)).getD .skip)) (normSt [(6, .asis), (36, .asis), (37, .asis), (38, .asis)]) (normSt [(6, .asis)]) K n (sh7.enc (un7 w))) (fun y0 => K (.exit 0) (osh7kx0.enc (((), ()), (y0, ())))) v := by intro v; kernel_rfl
theorem eq (k : Nat) : ∀ a, aexec (env k) (L k) (codeOf Try.f21) (begSt [.ro (.sl 2 (.int .i64)), .ro (.sl 2 (.int .i64))] a) (finK (env k) Try.f21 [.ro (.sl 2 (.int .i64)), .ro (.sl 2 (.int .i64))] [.own (.sl 2 (.int .i64)), .own (.int .i64)]) = (entry k).fn a := by intro a; kernel_rfl
theorem run7 (k : Nat) (K : AExit → St → Option R) : ∀ n v, aloop (aexec (env k) (L k) ((findLoop 7 (codeOf Try.f21)).getD .skip)) (normSt [(6, .asis), (36, .asis), (37, .asis), (38, .asis)]) (normSt [(6, .asis)]) K n (sh7.enc (un7 v)) = l7 (R := R) k n v (fun y0 => K (.exit 0) (osh7kx0.enc (((), ()), (y0, ())))) := loop_eq (fun n v => aloop (aexec (env k) (L k) ((findLoop 7 (codeOf Try.f21)).getD .skip)) (normSt [(6, .asis), (36, .asis), (37, .asis), (38, .asis)]) (normSt [(6, .asis)]) K n (sh7.enc (un7 v))) (fun n v => l7 (R := R) k n v (fun y0 => K (.exit 0) (osh7kx0.enc (((), ()), (y0, ()))))) (fun X v => s7 (R := R) k X (fun y0 => K (.exit 0) (osh7kx0.enc (((), ()), (y0, ())))) v) (fun _ => rfl) (fun n v => step7 k n K v) (fun n v => rfl)
theorem loops (k : Nat) : LoopsOk (env k) (L k) (codeOf Try.f21) := by
  intro c an hc han s K r h
  unfold L at h
  by_cases q7 : firstRegion c = 7
  · have h1 := key_eq q7 h
    rw [q7] at hc han
    have e2 : an = ⟨[(6, .asis), (36, .asis), (37, .asis), (38, .asis)], [(6, .asis)]⟩ := (Option.some.inj (show some _ = some an from han)).symm
    have e1 : c = (findLoop 7 (codeOf Try.f21)).getD .skip := by rw [hc]; rfl
    cases hd : sh7.dec s with
    | none => rw [hd] at h1; cases h1
    | some v =>
      rw [hd] at h1
      refine ⟨k, ?_⟩
      rw [e1, e2, Shape.dec_enc _ _ _ hd]
      exact (run7 k K k (fl7 v)).trans h1
  have h := not_key q7 h
  cases h
theorem fit (k : Nat) : codeFit (env k) (codeOf Try.f21) = true := by kernel_rfl
theorem lps : (loopsIn (codeOf Try.f21)).map (fun d => findLoop (firstRegion d) (codeOf Try.f21)) = (loopsIn (codeOf Try.f21)).map some := by kernel_rfl
theorem hf : Try.prog.funcs[21]? = some Try.f21 := by kernel_rfl
theorem hb : Try.f21.body = some (codeOf Try.f21) := by kernel_rfl
theorem hn : (Try.f21.name == "runtime.NumGoroutine") = false := by kernel_rfl
theorem sound (k : Nat) : Sound Try.prog 21 (entry k) := func_sound (E := env k) (by kernel_rfl) (by kernel_rfl) (by kernel_rfl) (tbl_cons (impl_allWithin.sound k) (tbl_cons (impl_sumOf.sound k) (tbl_cons (slices_Clone_int64_int64.sound k) tbl_nil))) hf hb hn (fit k) (loops_all lps) (loops k) (eq k)
end impl_NetResult

namespace laws_markInt64S
def entry (k : Nat) : Entry := ⟨[.io 2 (.int .i64), .ro (.int .i64)], [.own (.int .i64)], fun (a0, (a1, _)) => f k a0 a1⟩
def env (k : Nat) : Env := ⟨Try.prog, 19, AM.look none [], AM.look none [(2, some ⟨[(0, .asis), (1, .asis), (5, .asis)], [(1, .asis)]⟩)]⟩
abbrev R := Res [.own (.int .i64)] × Outs [.io 2 (.int .i64), .ro (.int .i64)]
def sh2 : Shape := ⟨[(0, .ref 0), (1, .val (.int .i64)), (5, .val (.int .i64))], [(0, .row 2 (.int .i64))], 1, [0]⟩
def osh2kx0 : Shape := ⟨[(1, .val (.int .i64))], [(0, .row 2 (.int .i64))], 1, [0]⟩
def un2 : Int × Int × (List Int) → sh2.V := fun (x1, x5, y0) => (((), (x1, (x5, ()))), (y0, ()))
def fl2 : sh2.V → Int × Int × (List Int) := fun ((_, (x1, (x5, _))), (y0, _)) => (x1, x5, y0)
def L (k : Nat) (q : Nat) (s : St) (K : AExit → St → Option R) : Option R := bif Nat.beq q 2 then (match sh2.dec s with | some v => l2 (R := R) k k (fl2 v) (fun (x1, y0) => K (.exit 0) (osh2kx0.enc ((x1, ()), (y0, ())))) | none => none) else (none)
theorem step2 (k n : Nat) (K : AExit → St → Option R) : ∀ v, aloop (aexec (env k) (L k) ((findLoop 2 (codeOf Try.f22)).getD .skip)) (normSt [(0, .asis), (1, .asis), (5, .asis)]) (normSt [(1, .asis)]) K (n + 1) (sh2.enc (un2 v)) = s2 (R := R) k (fun w => aloop (aexec (env k) (L k) ((findLoop 2 (codeOf Try.f22)).getD .skip)) (normSt [(0, .asis), (1, .asis), (5, .asis)]) (normSt [(1, .asis)]) K n (sh2.enc (un2 w))) (fun (x1, y0) => K (.exit 0) (osh2kx0.enc ((x1, ()), (y0, ())))) v := by intro v; kernel_rfl
theorem eq (k : Nat) : ∀ a, aexec (env k) (L k) (codeOf Try.f22) (begSt [.io 2 (.int .i64), .ro (.int .i64)] a) (finK (env k) Try.f22 [.io 2 (.int .i64), .ro (.int .i64)] [.own (.int .i64)]) = (entry k).fn a := by intro a; kernel_rfl
theorem run2 (k : Nat) (K : AExit → St → Option R) : ∀ n v, aloop (aexec (env k) (L k) ((findLoop 2 (codeOf Try.f22)).getD .skip)) (normSt [(0, .asis), (1, .asis), (5, .asis)]) (normSt [(1, .asis)]) K n (sh2.enc (un2 v)) = l2 (R := R) k n v (fun (x1, y0) => K (.exit 0) (osh2kx0.enc ((x1, ()), (y0, ())))) := loop_eq (fun n v => aloop (aexec (env k) (L k) ((findLoop 2 (codeOf Try.f22)).getD .skip)) (normSt [(0, .asis), (1, .asis), (5, .asis)]) (normSt [(1, .asis)]) K n (sh2.enc (un2 v))) (fun n v => l2 (R := R) k n v (fun (x1, y0) => K (.exit 0) (osh2kx0.enc ((x1, ()), (y0, ()))))) (fun X v => s2 (R := R) k X (fun (x1, y0) => K (.exit 0) (osh2kx0.enc ((x1, ()), (y0, ())))) v) (fun _ => rfl) (fun n v => step2 k n K v) (fun n v => rfl)
theorem loops (k : Nat) : LoopsOk (env k) (L k) (codeOf Try.f22) := by
  intro c an hc han s K r h
  unfold L at h
  by_cases q2 : firstRegion c = 2
  · have h1 := key_eq q2 h
    rw [q2] at hc han
    have e2 : an = ⟨[(0, .asis), (1, .asis), (5, .asis)], [(1, .asis)]⟩ := (Option.some.inj (show some _ = some an from han)).symm
    have e1 : c = (findLoop 2 (codeOf Try.f22)).getD .skip := by rw [hc]; rfl
    cases hd : sh2.dec s with
    | none => rw [hd] at h1; cases h1
    | some v =>
      rw [hd] at h1
      refine ⟨k, ?_⟩
      rw [e1, e2, Shape.dec_enc _ _ _ hd]
      exact (run2 k K k (fl2 v)).trans h1
  have h := not_key q2 h
  cases h
theorem fit (k : Nat) : codeFit (env k) (codeOf Try.f22) = true := by kernel_rfl
theorem lps : (loopsIn (codeOf Try.f22)).map (fun d => findLoop (firstRegion d) (codeOf Try.f22)) = (loopsIn (codeOf Try.f22)).map some := by kernel_rfl
theorem hf : Try.prog.funcs[22]? = some Try.f22 := by kernel_rfl
theorem hb : Try.f22.body = some (codeOf Try.f22) := by kernel_rfl
theorem hn : (Try.f22.name == "runtime.NumGoroutine") = false := by kernel_rfl
theorem sound (k : Nat) : Sound Try.prog 22 (entry k) := func_sound (E := env k) (by kernel_rfl) (by kernel_rfl) (by kernel_rfl) tbl_nil hf hb hn (fit k) (loops_all lps) (loops k) (eq k)
end laws_markInt64S

namespace laws_heldInt64S
def entry (k : Nat) : Entry := ⟨[.ro (.sl 2 (.int .i64)), .ro (.int .i64)], [.own (.int .i64)], fun (a0, (a1, _)) => f k a0 a1⟩
def env (k : Nat) : Env := ⟨Try.prog, 21, AM.look none [], AM.look none [(2, some ⟨[(0, .asis), (1, .asis), (5, .asis)], [(1, .asis), (4, .asis)]⟩)]⟩
abbrev R := Res [.own (.int .i64)] × Outs [.ro (.sl 2 (.int .i64)), .ro (.int .i64)]
def sh2 : Shape := ⟨[(0, .val (.sl 2 (.int .i64))), (1, .val (.int .i64)), (5, .val (.int .i64))], [], 0, []⟩
def osh2kx0 : Shape := ⟨[(1, .val (.int .i64)), (4, .undef)], [], 0, []⟩
def osh2kr : Shape := ⟨[(1, .val (.int .i64)), (4, .val (.int .i64))], [], 0, []⟩
def un2 : (List Int) × Int × Int → sh2.V := fun (x0, x1, x5) => ((x0, (x1, (x5, ()))), ())
def fl2 : sh2.V → (List Int) × Int × Int := fun ((x0, (x1, (x5, _))), _) => (x0, x1, x5)
def L (k : Nat) (q : Nat) (s : St) (K : AExit → St → Option R) : Option R := bif Nat.beq q 2 then (match sh2.dec s with | some v => l2 (R := R) k k (fl2 v) (fun x1 => K (.exit 0) (osh2kx0.enc ((x1, ((), ())), ()))) (fun (x1, x4) => K .ret (osh2kr.enc ((x1, (x4, ())), ()))) | none => none) else (none)
theorem step2 (k n : Nat) (K : AExit → St → Option R) : ∀ v, aloop (aexec (env k) (L k) ((findLoop 2 (codeOf Try.f23)).getD .skip)) (normSt [(0, .asis), (1, .asis), (5, .asis)]) (normSt [(1, .asis), (4, .asis)]) K (n + 1) (sh2.enc (un2 v)) = s2 (R := R) k (fun w => aloop (aexec (env k) (L k) ((findLoop 2 (codeOf Try.f23)).getD .skip)) (normSt [(0, .asis), (1, .asis), (5, .asis)]) (normSt [(1, .asis), (4, .asis)]) K n (sh2.enc (un2 w))) (fun x1 => K (.exit 0) (osh2kx0.enc ((x1, ((), ())), ()))) (fun (x1, x4) => K .ret (osh2kr.enc ((x1, (x4, ())), ()))) v := by intro v; kernel_rfl
theorem eq (k : Nat) : ∀ a, aexec (env k) (L k) (codeOf Try.f23) (begSt [.ro (.sl 2 (.int .i64)), .ro (.int .i64)] a) (finK (env k) Try.f23 [.ro (.sl 2 (.int .i64)), .ro (.int .i64)] [.own (.int .i64)]) = (entry k).fn a := by intro a; kernel_rfl
theorem run2 (k : Nat) (K : AExit → St → Option R) : ∀ n v, aloop (aexec (env k) (L k) ((findLoop 2 (codeOf Try.f23)).getD .skip)) (normSt [(0, .asis), (1, .asis), (5, .asis)]) (normSt [(1, .asis), (4, .asis)]) K n (sh2.enc (un2 v)) = l2 (R := R) k n v (fun x1 => K (.exit 0) (osh2kx0.enc ((x1, ((), ())), ()))) (fun (x1, x4) => K .ret (osh2kr.enc ((x1, (x4, ())), ()))) := loop_eq (fun n v => aloop (aexec (env k) (L k) ((findLoop 2 (codeOf Try.f23)).getD .skip)) (normSt [(0, .asis), (1, .asis), (5, .asis)]) (normSt [(1, .asis), (4, .asis)]) K n (sh2.enc (un2 v))) (fun n v => l2 (R := R) k n v (fun x1 => K (.exit 0) (osh2kx0.enc ((x1, ((), ())), ()))) (fun (x1, x4) => K .ret (osh2kr.enc ((x1, (x4, ())), ())))) (fun X v => s2 (R := R) k X (fun x1 => K (.exit 0) (osh2kx0.enc ((x1, ((), ())), ()))) (fun (x1, x4) => K .ret (osh2kr.enc ((x1, (x4, ())), ()))) v) (fun _ => rfl) (fun n v => step2 k n K v) (fun n v => rfl)
theorem loops (k : Nat) : LoopsOk (env k) (L k) (codeOf Try.f23) := by
  intro c an hc han s K r h
  unfold L at h
  by_cases q2 : firstRegion c = 2
  · have h1 := key_eq q2 h
    rw [q2] at hc han
    have e2 : an = ⟨[(0, .asis), (1, .asis), (5, .asis)], [(1, .asis), (4, .asis)]⟩ := (Option.some.inj (show some _ = some an from han)).symm
    have e1 : c = (findLoop 2 (codeOf Try.f23)).getD .skip := by rw [hc]; rfl
    cases hd : sh2.dec s with
    | none => rw [hd] at h1; cases h1
    | some v =>
      rw [hd] at h1
      refine ⟨k, ?_⟩
      rw [e1, e2, Shape.dec_enc _ _ _ hd]
      exact (run2 k K k (fl2 v)).trans h1
  have h := not_key q2 h
  cases h
theorem fit (k : Nat) : codeFit (env k) (codeOf Try.f23) = true := by kernel_rfl
theorem lps : (loopsIn (codeOf Try.f23)).map (fun d => findLoop (firstRegion d) (codeOf Try.f23)) = (loopsIn (codeOf Try.f23)).map some := by kernel_rfl
theorem hf : Try.prog.funcs[23]? = some Try.f23 := by kernel_rfl
theorem hb : Try.f23.body = some (codeOf Try.f23) := by kernel_rfl
theorem hn : (Try.f23.name == "runtime.NumGoroutine") = false := by kernel_rfl
theorem sound (k : Nat) : Sound Try.prog 23 (entry k) := func_sound (E := env k) (by kernel_rfl) (by kernel_rfl) (by kernel_rfl) tbl_nil hf hb hn (fit k) (loops_all lps) (loops k) (eq k)
end laws_heldInt64S

namespace laws_FnExactNetResult
def entry (k : Nat) : Entry := ⟨[.ro (.sl 2 (.int .i64)), .ro (.sl 2 (.int .i64))], [.own .bool], fun (a0, (a1, _)) => f k a0 a1⟩
def env (k : Nat) : Env := ⟨Try.prog, 114, AM.look none [(15, some (laws_toInt64S.entry k)), (18, some (laws_eqInt64S.entry k)), (20, some (spec_NetResult.entry k)), (21, some (impl_NetResult.entry k)), (22, some (laws_markInt64S.entry k)), (23, some (laws_heldInt64S.entry k))], AM.look none []⟩
abbrev R := Res [.own .bool] × Outs [.ro (.sl 2 (.int .i64)), .ro (.sl 2 (.int .i64))]
def L (k : Nat) (q : Nat) (s : St) (K : AExit → St → Option R) : Option R := none
theorem eq (k : Nat) : ∀ a, aexec (env k) (L k) (codeOf Try.f6) (begSt [.ro (.sl 2 (.int .i64)), .ro (.sl 2 (.int .i64))] a) (finK (env k) Try.f6 [.ro (.sl 2 (.int .i64)), .ro (.sl 2 (.int .i64))] [.own .bool]) = (entry k).fn a := by intro a; kernel_rfl
theorem loops (k : Nat) : LoopsOk (env k) (L k) (codeOf Try.f6) := by
  intro c an hc han s K r h
  unfold L at h
  cases h
theorem fit (k : Nat) : codeFit (env k) (codeOf Try.f6) = true := by kernel_rfl
theorem lps : (loopsIn (codeOf Try.f6)).map (fun d => findLoop (firstRegion d) (codeOf Try.f6)) = (loopsIn (codeOf Try.f6)).map some := by kernel_rfl
theorem hf : Try.prog.funcs[6]? = some Try.f6 := by kernel_rfl
theorem hb : Try.f6.body = some (codeOf Try.f6) := by kernel_rfl
theorem hn : (Try.f6.name == "runtime.NumGoroutine") = false := by kernel_rfl
theorem sound (k : Nat) : Sound Try.prog 6 (entry k) := func_sound (E := env k) (by kernel_rfl) (by kernel_rfl) (by kernel_rfl) (tbl_cons (laws_toInt64S.sound k) (tbl_cons (laws_eqInt64S.sound k) (tbl_cons (spec_NetResult.sound k) (tbl_cons (impl_NetResult.sound k) (tbl_cons (laws_markInt64S.sound k) (tbl_cons (laws_heldInt64S.sound k) tbl_nil)))))) hf hb hn (fit k) (loops_all lps) (loops k) (eq k)
end laws_FnExactNetResult
end Go.Sh

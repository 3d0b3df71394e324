/- Each Go function that the law reaches keeps the contract that its Lean function states; conditions: none. -/
import Derived.Test.YtipjcodpegpocaaA1
import Derived.Test.YtipjcodpegpocaaSFnExactLowWinners0
import Derived.Test.YtipjcodpegpocaaProg
noncomputable section
set_option linter.unusedVariables false
set_option maxRecDepth 100000
namespace Go.Sh
open Go Go.AM Go.Proofs
namespace laws_toInt64S
def entry (k : Nat) : Entry := ⟨[.ro (.sl 2 (.int .i64))], [.own (.sl 2 (.int .i64))], fun (a0, _) => f k a0⟩
def tbl (k : Nat) : List (Nat × Option Entry) := []
abbrev R := Res [.own (.sl 2 (.int .i64))] × Outs [.ro (.sl 2 (.int .i64))]
def env (k : Nat) : Env := ⟨Try.prog, 22, AM.look none (tbl k), AM.look none [(3, some ⟨[(0, .asis), (3, .asis), (4, .asis)], [(3, .asis)]⟩)]⟩
def sh3 : Shape := ⟨[(0, .val (.sl 2 (.int .i64))), (3, .ref 0), (4, .val (.int .i64))], [(0, .row 2 (.int .i64))], 1, []⟩
def osh3kx0 : Shape := ⟨[(3, .ref 0)], [(0, .row 2 (.int .i64))], 1, []⟩
def un3 : (List Int) × Int × (List Int) → sh3.V := fun (x0, x4, y0) => ((x0, ((), (x4, ()))), (y0, ()))
def fl3 : sh3.V → (List Int) × Int × (List Int) := fun ((x0, (_, (x4, _))), (y0, _)) => (x0, x4, y0)
def L (k : Nat) (q : Nat) (s : St) (K : AExit → St → Option R) : Option R := bif Nat.beq q 3 then (match sh3.dec s with | some v => l3 (R := R) k k (fl3 v) (fun y0 => K (.exit 0) (osh3kx0.enc (((), ()), (y0, ())))) | none => none) else (none)
def J (k : Nat) : Inl R := noInl
theorem step3 (k n : Nat) (K : AExit → St → Option R) : ∀ v, aloop (aexec (env k) (J k) (L k) ((findLoop 3 (codeOf Try.f13)).getD .skip)) (normSt [(0, .asis), (3, .asis), (4, .asis)]) (normSt [(3, .asis)]) K (n + 1) (sh3.enc (un3 v)) = s3 (R := R) k (fun w => aloop (aexec (env k) (J k) (L k) ((findLoop 3 (codeOf Try.f13)).getD .skip)) (normSt [(0, .asis), (3, .asis), (4, .asis)]) (normSt [(3, .asis)]) K n (sh3.enc (un3 w))) (fun y0 => K (.exit 0) (osh3kx0.enc (((), ()), (y0, ())))) v := by intro v; kernel_rfl
theorem eq (k : Nat) : ∀ a, aexec (env k) (J k) (L k) (codeOf Try.f13) (begSt [.ro (.sl 2 (.int .i64))] a) (finK (env k) Try.f13 [.ro (.sl 2 (.int .i64))] [.own (.sl 2 (.int .i64))]) = (entry k).fn a := by intro a; kernel_rfl
theorem run3 (k : Nat) (K : AExit → St → Option R) : ∀ n v, aloop (aexec (env k) (J k) (L k) ((findLoop 3 (codeOf Try.f13)).getD .skip)) (normSt [(0, .asis), (3, .asis), (4, .asis)]) (normSt [(3, .asis)]) K n (sh3.enc (un3 v)) = l3 (R := R) k n v (fun y0 => K (.exit 0) (osh3kx0.enc (((), ()), (y0, ())))) := loop_eq (fun n v => aloop (aexec (env k) (J k) (L k) ((findLoop 3 (codeOf Try.f13)).getD .skip)) (normSt [(0, .asis), (3, .asis), (4, .asis)]) (normSt [(3, .asis)]) K n (sh3.enc (un3 v))) (fun n v => l3 (R := R) k n v (fun y0 => K (.exit 0) (osh3kx0.enc (((), ()), (y0, ()))))) (fun X v => s3 (R := R) k X (fun y0 => K (.exit 0) (osh3kx0.enc (((), ()), (y0, ())))) v) (fun _ => rfl) (fun n v => step3 k n K v) (fun n v => rfl)
theorem loops (k : Nat) : LoopsOk (env k) (J k) (L k) (codeOf Try.f13) := by
  intro c an hc han s K r h
  unfold L at h
  by_cases q3 : firstRegion c = 3
  · have h1 := key_eq q3 h
    rw [q3] at hc han
    have e2 : an = ⟨[(0, .asis), (3, .asis), (4, .asis)], [(3, .asis)]⟩ := (Option.some.inj (show some _ = some an from han)).symm
    have e1 : c = (findLoop 3 (codeOf Try.f13)).getD .skip := by rw [hc]; rfl
    cases hd : sh3.dec s with
    | none => rw [hd] at h1; cases h1
    | some v =>
      rw [hd] at h1
      refine ⟨k, ?_⟩
      rw [e1, e2, Shape.dec_enc _ _ _ hd]
      exact (run3 k K k (fl3 v)).trans h1
  have h := not_key q3 h
  cases h
theorem fit (k : Nat) : codeFit (env k) (codeOf Try.f13) = true := by kernel_rfl
theorem lps : (loopsIn (codeOf Try.f13)).map (fun d => findLoop (firstRegion d) (codeOf Try.f13)) = (loopsIn (codeOf Try.f13)).map some := by kernel_rfl
theorem hf : Try.prog.funcs[13]? = some Try.f13 := by kernel_rfl
theorem hb : Try.f13.body = some (codeOf Try.f13) := by kernel_rfl
theorem hn : (Try.f13.name == "runtime.NumGoroutine") = false := by kernel_rfl
theorem hJ (k : Nat) : ∀ C : Ctx, C.P = Try.prog → ∀ r, InlOk C (J k) r := fun C hC r => noInl_ok
theorem sound (k : Nat) : Sound Try.prog 13 (entry k) := func_sound (E := env k) (by kernel_rfl) (by kernel_rfl) (by kernel_rfl) (by kernel_rfl) tbl_nil hf hb hn (fit k) (loops_all lps) (hJ k) (loops k) (eq k)
end laws_toInt64S

namespace laws_eqInt64S
def entry (k : Nat) : Entry := ⟨[.ro (.sl 2 (.int .i64)), .ro (.sl 2 (.int .i64))], [.own .bool], fun (a0, (a1, _)) => f k a0 a1⟩
def tbl (k : Nat) : List (Nat × Option Entry) := []
abbrev R := Res [.own .bool] × Outs [.ro (.sl 2 (.int .i64)), .ro (.sl 2 (.int .i64))]
def env (k : Nat) : Env := ⟨Try.prog, 26, AM.look none (tbl k), AM.look none [(4, some ⟨[(0, .asis), (1, .asis), (5, .asis)], [(4, .asis)]⟩)]⟩
def sh4 : Shape := ⟨[(0, .val (.sl 2 (.int .i64))), (1, .val (.sl 2 (.int .i64))), (5, .val (.int .i64))], [], 0, []⟩
def osh4kx0 : Shape := ⟨[(4, .undef)], [], 0, []⟩
def osh4kr : Shape := ⟨[(4, .val .bool)], [], 0, []⟩
def un4 : (List Int) × (List Int) × Int → sh4.V := fun (x0, x1, x5) => ((x0, (x1, (x5, ()))), ())
def fl4 : sh4.V → (List Int) × (List Int) × Int := fun ((x0, (x1, (x5, _))), _) => (x0, x1, x5)
def L (k : Nat) (q : Nat) (s : St) (K : AExit → St → Option R) : Option R := bif Nat.beq q 4 then (match sh4.dec s with | some v => l4 (R := R) k k (fl4 v) (fun (_ : Unit) => K (.exit 0) (osh4kx0.enc (((), ()), ()))) (fun x4 => K .ret (osh4kr.enc ((x4, ()), ()))) | none => none) else (none)
def J (k : Nat) : Inl R := noInl
theorem step4 (k n : Nat) (K : AExit → St → Option R) : ∀ v, aloop (aexec (env k) (J k) (L k) ((findLoop 4 (codeOf Try.f15)).getD .skip)) (normSt [(0, .asis), (1, .asis), (5, .asis)]) (normSt [(4, .asis)]) K (n + 1) (sh4.enc (un4 v)) = s4 (R := R) k (fun w => aloop (aexec (env k) (J k) (L k) ((findLoop 4 (codeOf Try.f15)).getD .skip)) (normSt [(0, .asis), (1, .asis), (5, .asis)]) (normSt [(4, .asis)]) K n (sh4.enc (un4 w))) (fun (_ : Unit) => K (.exit 0) (osh4kx0.enc (((), ()), ()))) (fun x4 => K .ret (osh4kr.enc ((x4, ()), ()))) v := by intro v; kernel_rfl
theorem eq (k : Nat) : ∀ a, aexec (env k) (J k) (L k) (codeOf Try.f15) (begSt [.ro (.sl 2 (.int .i64)), .ro (.sl 2 (.int .i64))] a) (finK (env k) Try.f15 [.ro (.sl 2 (.int .i64)), .ro (.sl 2 (.int .i64))] [.own .bool]) = (entry k).fn a := by intro a; kernel_rfl
theorem run4 (k : Nat) (K : AExit → St → Option R) : ∀ n v, aloop (aexec (env k) (J k) (L k) ((findLoop 4 (codeOf Try.f15)).getD .skip)) (normSt [(0, .asis), (1, .asis), (5, .asis)]) (normSt [(4, .asis)]) K n (sh4.enc (un4 v)) = l4 (R := R) k n v (fun (_ : Unit) => K (.exit 0) (osh4kx0.enc (((), ()), ()))) (fun x4 => K .ret (osh4kr.enc ((x4, ()), ()))) := loop_eq (fun n v => aloop (aexec (env k) (J k) (L k) ((findLoop 4 (codeOf Try.f15)).getD .skip)) (normSt [(0, .asis), (1, .asis), (5, .asis)]) (normSt [(4, .asis)]) K n (sh4.enc (un4 v))) (fun n v => l4 (R := R) k n v (fun (_ : Unit) => K (.exit 0) (osh4kx0.enc (((), ()), ()))) (fun x4 => K .ret (osh4kr.enc ((x4, ()), ())))) (fun X v => s4 (R := R) k X (fun (_ : Unit) => K (.exit 0) (osh4kx0.enc (((), ()), ()))) (fun x4 => K .ret (osh4kr.enc ((x4, ()), ()))) v) (fun _ => rfl) (fun n v => step4 k n K v) (fun n v => rfl)
theorem loops (k : Nat) : LoopsOk (env k) (J k) (L k) (codeOf Try.f15) := by
  intro c an hc han s K r h
  unfold L at h
  by_cases q4 : firstRegion c = 4
  · have h1 := key_eq q4 h
    rw [q4] at hc han
    have e2 : an = ⟨[(0, .asis), (1, .asis), (5, .asis)], [(4, .asis)]⟩ := (Option.some.inj (show some _ = some an from han)).symm
    have e1 : c = (findLoop 4 (codeOf Try.f15)).getD .skip := by rw [hc]; rfl
    cases hd : sh4.dec s with
    | none => rw [hd] at h1; cases h1
    | some v =>
      rw [hd] at h1
      refine ⟨k, ?_⟩
      rw [e1, e2, Shape.dec_enc _ _ _ hd]
      exact (run4 k K k (fl4 v)).trans h1
  have h := not_key q4 h
  cases h
theorem fit (k : Nat) : codeFit (env k) (codeOf Try.f15) = true := by kernel_rfl
theorem lps : (loopsIn (codeOf Try.f15)).map (fun d => findLoop (firstRegion d) (codeOf Try.f15)) = (loopsIn (codeOf Try.f15)).map some := by kernel_rfl
theorem hf : Try.prog.funcs[15]? = some Try.f15 := by kernel_rfl
theorem hb : Try.f15.body = some (codeOf Try.f15) := by kernel_rfl
theorem hn : (Try.f15.name == "runtime.NumGoroutine") = false := by kernel_rfl
theorem hJ (k : Nat) : ∀ C : Ctx, C.P = Try.prog → ∀ r, InlOk C (J k) r := fun C hC r => noInl_ok
theorem sound (k : Nat) : Sound Try.prog 15 (entry k) := func_sound (E := env k) (by kernel_rfl) (by kernel_rfl) (by kernel_rfl) (by kernel_rfl) tbl_nil hf hb hn (fit k) (loops_all lps) (hJ k) (loops k) (eq k)
end laws_eqInt64S

namespace laws_markInt64S
def entry (k : Nat) : Entry := ⟨[.io 2 (.int .i64), .ro (.int .i64)], [.own (.int .i64)], fun (a0, (a1, _)) => f k a0 a1⟩
def tbl (k : Nat) : List (Nat × Option Entry) := []
abbrev R := Res [.own (.int .i64)] × Outs [.io 2 (.int .i64), .ro (.int .i64)]
def env (k : Nat) : Env := ⟨Try.prog, 19, AM.look none (tbl k), AM.look none [(2, some ⟨[(0, .asis), (1, .asis), (5, .asis)], [(1, .asis)]⟩)]⟩
def sh2 : Shape := ⟨[(0, .ref 0), (1, .val (.int .i64)), (5, .val (.int .i64))], [(0, .row 2 (.int .i64))], 1, [0]⟩
def osh2kx0 : Shape := ⟨[(1, .val (.int .i64))], [(0, .row 2 (.int .i64))], 1, [0]⟩
def un2 : Int × Int × (List Int) → sh2.V := fun (x1, x5, y0) => (((), (x1, (x5, ()))), (y0, ()))
def fl2 : sh2.V → Int × Int × (List Int) := fun ((_, (x1, (x5, _))), (y0, _)) => (x1, x5, y0)
def L (k : Nat) (q : Nat) (s : St) (K : AExit → St → Option R) : Option R := bif Nat.beq q 2 then (match sh2.dec s with | some v => l2 (R := R) k k (fl2 v) (fun (x1, y0) => K (.exit 0) (osh2kx0.enc ((x1, ()), (y0, ())))) | none => none) else (none)
def J (k : Nat) : Inl R := noInl
theorem step2 (k n : Nat) (K : AExit → St → Option R) : ∀ v, aloop (aexec (env k) (J k) (L k) ((findLoop 2 (codeOf Try.f16)).getD .skip)) (normSt [(0, .asis), (1, .asis), (5, .asis)]) (normSt [(1, .asis)]) K (n + 1) (sh2.enc (un2 v)) = s2 (R := R) k (fun w => aloop (aexec (env k) (J k) (L k) ((findLoop 2 (codeOf Try.f16)).getD .skip)) (normSt [(0, .asis), (1, .asis), (5, .asis)]) (normSt [(1, .asis)]) K n (sh2.enc (un2 w))) (fun (x1, y0) => K (.exit 0) (osh2kx0.enc ((x1, ()), (y0, ())))) v := by intro v; kernel_rfl
theorem eq (k : Nat) : ∀ a, aexec (env k) (J k) (L k) (codeOf Try.f16) (begSt [.io 2 (.int .i64), .ro (.int .i64)] a) (finK (env k) Try.f16 [.io 2 (.int .i64), .ro (.int .i64)] [.own (.int .i64)]) = (entry k).fn a := by intro a; kernel_rfl
theorem run2 (k : Nat) (K : AExit → St → Option R) : ∀ n v, aloop (aexec (env k) (J k) (L k) ((findLoop 2 (codeOf Try.f16)).getD .skip)) (normSt [(0, .asis), (1, .asis), (5, .asis)]) (normSt [(1, .asis)]) K n (sh2.enc (un2 v)) = l2 (R := R) k n v (fun (x1, y0) => K (.exit 0) (osh2kx0.enc ((x1, ()), (y0, ())))) := loop_eq (fun n v => aloop (aexec (env k) (J k) (L k) ((findLoop 2 (codeOf Try.f16)).getD .skip)) (normSt [(0, .asis), (1, .asis), (5, .asis)]) (normSt [(1, .asis)]) K n (sh2.enc (un2 v))) (fun n v => l2 (R := R) k n v (fun (x1, y0) => K (.exit 0) (osh2kx0.enc ((x1, ()), (y0, ()))))) (fun X v => s2 (R := R) k X (fun (x1, y0) => K (.exit 0) (osh2kx0.enc ((x1, ()), (y0, ())))) v) (fun _ => rfl) (fun n v => step2 k n K v) (fun n v => rfl)
theorem loops (k : Nat) : LoopsOk (env k) (J k) (L k) (codeOf Try.f16) := by
  intro c an hc han s K r h
  unfold L at h
  by_cases q2 : firstRegion c = 2
  · have h1 := key_eq q2 h
    rw [q2] at hc han
    have e2 : an = ⟨[(0, .asis), (1, .asis), (5, .asis)], [(1, .asis)]⟩ := (Option.some.inj (show some _ = some an from han)).symm
    have e1 : c = (findLoop 2 (codeOf Try.f16)).getD .skip := by rw [hc]; rfl
    cases hd : sh2.dec s with
    | none => rw [hd] at h1; cases h1
    | some v =>
      rw [hd] at h1
      refine ⟨k, ?_⟩
      rw [e1, e2, Shape.dec_enc _ _ _ hd]
      exact (run2 k K k (fl2 v)).trans h1
  have h := not_key q2 h
  cases h
theorem fit (k : Nat) : codeFit (env k) (codeOf Try.f16) = true := by kernel_rfl
theorem lps : (loopsIn (codeOf Try.f16)).map (fun d => findLoop (firstRegion d) (codeOf Try.f16)) = (loopsIn (codeOf Try.f16)).map some := by kernel_rfl
theorem hf : Try.prog.funcs[16]? = some Try.f16 := by kernel_rfl
theorem hb : Try.f16.body = some (codeOf Try.f16) := by kernel_rfl
theorem hn : (Try.f16.name == "runtime.NumGoroutine") = false := by kernel_rfl
theorem hJ (k : Nat) : ∀ C : Ctx, C.P = Try.prog → ∀ r, InlOk C (J k) r := fun C hC r => noInl_ok
theorem sound (k : Nat) : Sound Try.prog 16 (entry k) := func_sound (E := env k) (by kernel_rfl) (by kernel_rfl) (by kernel_rfl) (by kernel_rfl) tbl_nil hf hb hn (fit k) (loops_all lps) (hJ k) (loops k) (eq k)
end laws_markInt64S

namespace laws_heldInt64S
def entry (k : Nat) : Entry := ⟨[.ro (.sl 2 (.int .i64)), .ro (.int .i64)], [.own (.int .i64)], fun (a0, (a1, _)) => f k a0 a1⟩
def tbl (k : Nat) : List (Nat × Option Entry) := []
abbrev R := Res [.own (.int .i64)] × Outs [.ro (.sl 2 (.int .i64)), .ro (.int .i64)]
def env (k : Nat) : Env := ⟨Try.prog, 21, AM.look none (tbl k), AM.look none [(2, some ⟨[(0, .asis), (1, .asis), (5, .asis)], [(1, .asis), (4, .asis)]⟩)]⟩
def sh2 : Shape := ⟨[(0, .val (.sl 2 (.int .i64))), (1, .val (.int .i64)), (5, .val (.int .i64))], [], 0, []⟩
def osh2kx0 : Shape := ⟨[(1, .val (.int .i64)), (4, .undef)], [], 0, []⟩
def osh2kr : Shape := ⟨[(1, .val (.int .i64)), (4, .val (.int .i64))], [], 0, []⟩
def un2 : (List Int) × Int × Int → sh2.V := fun (x0, x1, x5) => ((x0, (x1, (x5, ()))), ())
def fl2 : sh2.V → (List Int) × Int × Int := fun ((x0, (x1, (x5, _))), _) => (x0, x1, x5)
def L (k : Nat) (q : Nat) (s : St) (K : AExit → St → Option R) : Option R := bif Nat.beq q 2 then (match sh2.dec s with | some v => l2 (R := R) k k (fl2 v) (fun x1 => K (.exit 0) (osh2kx0.enc ((x1, ((), ())), ()))) (fun (x1, x4) => K .ret (osh2kr.enc ((x1, (x4, ())), ()))) | none => none) else (none)
def J (k : Nat) : Inl R := noInl
theorem step2 (k n : Nat) (K : AExit → St → Option R) : ∀ v, aloop (aexec (env k) (J k) (L k) ((findLoop 2 (codeOf Try.f17)).getD .skip)) (normSt [(0, .asis), (1, .asis), (5, .asis)]) (normSt [(1, .asis), (4, .asis)]) K (n + 1) (sh2.enc (un2 v)) = s2 (R := R) k (fun w => aloop (aexec (env k) (J k) (L k) ((findLoop 2 (codeOf Try.f17)).getD .skip)) (normSt [(0, .asis), (1, .asis), (5, .asis)]) (normSt [(1, .asis), (4, .asis)]) K n (sh2.enc (un2 w))) (fun x1 => K (.exit 0) (osh2kx0.enc ((x1, ((), ())), ()))) (fun (x1, x4) => K .ret (osh2kr.enc ((x1, (x4, ())), ()))) v := by intro v; kernel_rfl
theorem eq (k : Nat) : ∀ a, aexec (env k) (J k) (L k) (codeOf Try.f17) (begSt [.ro (.sl 2 (.int .i64)), .ro (.int .i64)] a) (finK (env k) Try.f17 [.ro (.sl 2 (.int .i64)), .ro (.int .i64)] [.own (.int .i64)]) = (entry k).fn a := by intro a; kernel_rfl
theorem run2 (k : Nat) (K : AExit → St → Option R) : ∀ n v, aloop (aexec (env k) (J k) (L k) ((findLoop 2 (codeOf Try.f17)).getD .skip)) (normSt [(0, .asis), (1, .asis), (5, .asis)]) (normSt [(1, .asis), (4, .asis)]) K n (sh2.enc (un2 v)) = l2 (R := R) k n v (fun x1 => K (.exit 0) (osh2kx0.enc ((x1, ((), ())), ()))) (fun (x1, x4) => K .ret (osh2kr.enc ((x1, (x4, ())), ()))) := loop_eq (fun n v => aloop (aexec (env k) (J k) (L k) ((findLoop 2 (codeOf Try.f17)).getD .skip)) (normSt [(0, .asis), (1, .asis), (5, .asis)]) (normSt [(1, .asis), (4, .asis)]) K n (sh2.enc (un2 v))) (fun n v => l2 (R := R) k n v (fun x1 => K (.exit 0) (osh2kx0.enc ((x1, ((), ())), ()))) (fun (x1, x4) => K .ret (osh2kr.enc ((x1, (x4, ())), ())))) (fun X v => s2 (R := R) k X (fun x1 => K (.exit 0) (osh2kx0.enc ((x1, ((), ())), ()))) (fun (x1, x4) => K .ret (osh2kr.enc ((x1, (x4, ())), ()))) v) (fun _ => rfl) (fun n v => step2 k n K v) (fun n v => rfl)
theorem loops (k : Nat) : LoopsOk (env k) (J k) (L k) (codeOf Try.f17) := by
  intro c an hc han s K r h
  unfold L at h
  by_cases q2 : firstRegion c = 2
  · have h1 := key_eq q2 h
    rw [q2] at hc han
    have e2 : an = ⟨[(0, .asis), (1, .asis), (5, .asis)], [(1, .asis), (4, .asis)]⟩ := (Option.some.inj (show some _ = some an from han)).symm
    have e1 : c = (findLoop 2 (codeOf Try.f17)).getD .skip := by rw [hc]; rfl
    cases hd : sh2.dec s with
    | none => rw [hd] at h1; cases h1
    | some v =>
      rw [hd] at h1
      refine ⟨k, ?_⟩
      rw [e1, e2, Shape.dec_enc _ _ _ hd]
      exact (run2 k K k (fl2 v)).trans h1
  have h := not_key q2 h
  cases h
theorem fit (k : Nat) : codeFit (env k) (codeOf Try.f17) = true := by kernel_rfl
theorem lps : (loopsIn (codeOf Try.f17)).map (fun d => findLoop (firstRegion d) (codeOf Try.f17)) = (loopsIn (codeOf Try.f17)).map some := by kernel_rfl
theorem hf : Try.prog.funcs[17]? = some Try.f17 := by kernel_rfl
theorem hb : Try.f17.body = some (codeOf Try.f17) := by kernel_rfl
theorem hn : (Try.f17.name == "runtime.NumGoroutine") = false := by kernel_rfl
theorem hJ (k : Nat) : ∀ C : Ctx, C.P = Try.prog → ∀ r, InlOk C (J k) r := fun C hC r => noInl_ok
theorem sound (k : Nat) : Sound Try.prog 17 (entry k) := func_sound (E := env k) (by kernel_rfl) (by kernel_rfl) (by kernel_rfl) (by kernel_rfl) tbl_nil hf hb hn (fit k) (loops_all lps) (hJ k) (loops k) (eq k)
end laws_heldInt64S

namespace spec_l01In
def entry (k : Nat) : Entry := ⟨[.ro (.int .i64), .ro (.int .i64), .ro (.int .i64)], [.own .bool], fun (a0, (a1, (a2, _))) => f k a0 a1 a2⟩
def tbl (k : Nat) : List (Nat × Option Entry) := []
abbrev R := Res [.own .bool] × Outs [.ro (.int .i64), .ro (.int .i64), .ro (.int .i64)]
def env (k : Nat) : Env := ⟨Try.prog, 15, AM.look none (tbl k), AM.look none []⟩
def L (k : Nat) (q : Nat) (s : St) (K : AExit → St → Option R) : Option R := none
def J (k : Nat) : Inl R := noInl
theorem eq (k : Nat) : ∀ a, aexec (env k) (J k) (L k) (codeOf Try.f57) (begSt [.ro (.int .i64), .ro (.int .i64), .ro (.int .i64)] a) (finK (env k) Try.f57 [.ro (.int .i64), .ro (.int .i64), .ro (.int .i64)] [.own .bool]) = (entry k).fn a := by intro a; kernel_rfl
theorem loops (k : Nat) : LoopsOk (env k) (J k) (L k) (codeOf Try.f57) := by
  intro c an hc han s K r h
  unfold L at h
  cases h
theorem fit (k : Nat) : codeFit (env k) (codeOf Try.f57) = true := by kernel_rfl
theorem lps : (loopsIn (codeOf Try.f57)).map (fun d => findLoop (firstRegion d) (codeOf Try.f57)) = (loopsIn (codeOf Try.f57)).map some := by kernel_rfl
theorem hf : Try.prog.funcs[57]? = some Try.f57 := by kernel_rfl
theorem hb : Try.f57.body = some (codeOf Try.f57) := by kernel_rfl
theorem hn : (Try.f57.name == "runtime.NumGoroutine") = false := by kernel_rfl
theorem hJ (k : Nat) : ∀ C : Ctx, C.P = Try.prog → ∀ r, InlOk C (J k) r := fun C hC r => noInl_ok
theorem sound (k : Nat) : Sound Try.prog 57 (entry k) := func_sound (E := env k) (by kernel_rfl) (by kernel_rfl) (by kernel_rfl) (by kernel_rfl) tbl_nil hf hb hn (fit k) (loops_all lps) (hJ k) (loops k) (eq k)
end spec_l01In

namespace spec_l13Seats
def entry (k : Nat) : Entry := ⟨[.ro (.int .i64)], [.own .bool], fun (a0, _) => f k a0⟩
def tbl (k : Nat) : List (Nat × Option Entry) := [(57, some (spec_l01In.entry k))]
abbrev R := Res [.own .bool] × Outs [.ro (.int .i64)]
def env (k : Nat) : Env := ⟨Try.prog, 5, AM.look none (tbl k), AM.look none []⟩
def L (k : Nat) (q : Nat) (s : St) (K : AExit → St → Option R) : Option R := none
def J (k : Nat) : Inl R := noInl
theorem eq (k : Nat) : ∀ a, aexec (env k) (J k) (L k) (codeOf Try.f54) (begSt [.ro (.int .i64)] a) (finK (env k) Try.f54 [.ro (.int .i64)] [.own .bool]) = (entry k).fn a := by intro a; kernel_rfl
theorem loops (k : Nat) : LoopsOk (env k) (J k) (L k) (codeOf Try.f54) := by
  intro c an hc han s K r h
  unfold L at h
  cases h
theorem fit (k : Nat) : codeFit (env k) (codeOf Try.f54) = true := by kernel_rfl
theorem lps : (loopsIn (codeOf Try.f54)).map (fun d => findLoop (firstRegion d) (codeOf Try.f54)) = (loopsIn (codeOf Try.f54)).map some := by kernel_rfl
theorem hf : Try.prog.funcs[54]? = some Try.f54 := by kernel_rfl
theorem hb : Try.f54.body = some (codeOf Try.f54) := by kernel_rfl
theorem hn : (Try.f54.name == "runtime.NumGoroutine") = false := by kernel_rfl
theorem hJ (k : Nat) : ∀ C : Ctx, C.P = Try.prog → ∀ r, InlOk C (J k) r := fun C hC r => noInl_ok
theorem sound (k : Nat) : Sound Try.prog 54 (entry k) := func_sound (E := env k) (by kernel_rfl) (by kernel_rfl) (by kernel_rfl) (by kernel_rfl) (tbl_cons (spec_l01In.sound k) tbl_nil) hf hb hn (fit k) (loops_all lps) (hJ k) (loops k) (eq k)
end spec_l13Seats

namespace spec_l01Rises
def entry (k : Nat) : Entry := ⟨[.ro (.sl 2 (.int .i64)), .ro (.int .i64)], [.own .bool], fun (a0, (a1, _)) => f k a0 a1⟩
def tbl (k : Nat) : List (Nat × Option Entry) := [(57, some (spec_l01In.entry k))]
abbrev R := Res [.own .bool] × Outs [.ro (.sl 2 (.int .i64)), .ro (.int .i64)]
def env (k : Nat) : Env := ⟨Try.prog, 36, AM.look none (tbl k), AM.look none [(2, some ⟨[(0, .asis), (1, .asis), (5, .asis)], [(4, .asis)]⟩)]⟩
def sh2 : Shape := ⟨[(0, .val (.sl 2 (.int .i64))), (1, .val (.int .i64)), (5, .val (.int .i64))], [], 0, []⟩
def osh2kx0 : Shape := ⟨[(4, .undef)], [], 0, []⟩
def osh2kr : Shape := ⟨[(4, .val .bool)], [], 0, []⟩
def un2 : (List Int) × Int × Int → sh2.V := fun (x0, x1, x5) => ((x0, (x1, (x5, ()))), ())
def fl2 : sh2.V → (List Int) × Int × Int := fun ((x0, (x1, (x5, _))), _) => (x0, x1, x5)
def L (k : Nat) (q : Nat) (s : St) (K : AExit → St → Option R) : Option R := bif Nat.beq q 2 then (match sh2.dec s with | some v => l2 (R := R) k k (fl2 v) (fun (_ : Unit) => K (.exit 0) (osh2kx0.enc (((), ()), ()))) (fun x4 => K .ret (osh2kr.enc ((x4, ()), ()))) | none => none) else (none)
def J (k : Nat) : Inl R := noInl
theorem step2 (k n : Nat) (K : AExit → St → Option R) : ∀ v, aloop (aexec (env k) (J k) (L k) ((findLoop 2 (codeOf Try.f93)).getD .skip)) (normSt [(0, .asis), (1, .asis), (5, .asis)]) (normSt [(4, .asis)]) K (n + 1) (sh2.enc (un2 v)) = s2 (R := R) k (fun w => aloop (aexec (env k) (J k) (L k) ((findLoop 2 (codeOf Try.f93)).getD .skip)) (normSt [(0, .asis), (1, .asis), (5, .asis)]) (normSt [(4, .asis)]) K n (sh2.enc (un2 w))) (fun (_ : Unit) => K (.exit 0) (osh2kx0.enc (((), ()), ()))) (fun x4 => K .ret (osh2kr.enc ((x4, ()), ()))) v := by intro v; kernel_rfl
theorem eq (k : Nat) : ∀ a, aexec (env k) (J k) (L k) (codeOf Try.f93) (begSt [.ro (.sl 2 (.int .i64)), .ro (.int .i64)] a) (finK (env k) Try.f93 [.ro (.sl 2 (.int .i64)), .ro (.int .i64)] [.own .bool]) = (entry k).fn a := by intro a; kernel_rfl
theorem run2 (k : Nat) (K : AExit → St → Option R) : ∀ n v, aloop (aexec (env k) (J k) (L k) ((findLoop 2 (codeOf Try.f93)).getD .skip)) (normSt [(0, .asis), (1, .asis), (5, .asis)]) (normSt [(4, .asis)]) K n (sh2.enc (un2 v)) = l2 (R := R) k n v (fun (_ : Unit) => K (.exit 0) (osh2kx0.enc (((), ()), ()))) (fun x4 => K .ret (osh2kr.enc ((x4, ()), ()))) := loop_eq (fun n v => aloop (aexec (env k) (J k) (L k) ((findLoop 2 (codeOf Try.f93)).getD .skip)) (normSt [(0, .asis), (1, .asis), (5, .asis)]) (normSt [(4, .asis)]) K n (sh2.enc (un2 v))) (fun n v => l2 (R := R) k n v (fun (_ : Unit) => K (.exit 0) (osh2kx0.enc (((), ()), ()))) (fun x4 => K .ret (osh2kr.enc ((x4, ()), ())))) (fun X v => s2 (R := R) k X (fun (_ : Unit) => K (.exit 0) (osh2kx0.enc (((), ()), ()))) (fun x4 => K .ret (osh2kr.enc ((x4, ()), ()))) v) (fun _ => rfl) (fun n v => step2 k n K v) (fun n v => rfl)
theorem loops (k : Nat) : LoopsOk (env k) (J k) (L k) (codeOf Try.f93) := by
  intro c an hc han s K r h
  unfold L at h
  by_cases q2 : firstRegion c = 2
  · have h1 := key_eq q2 h
    rw [q2] at hc han
    have e2 : an = ⟨[(0, .asis), (1, .asis), (5, .asis)], [(4, .asis)]⟩ := (Option.some.inj (show some _ = some an from han)).symm
    have e1 : c = (findLoop 2 (codeOf Try.f93)).getD .skip := by rw [hc]; rfl
    cases hd : sh2.dec s with
    | none => rw [hd] at h1; cases h1
    | some v =>
      rw [hd] at h1
      refine ⟨k, ?_⟩
      rw [e1, e2, Shape.dec_enc _ _ _ hd]
      exact (run2 k K k (fl2 v)).trans h1
  have h := not_key q2 h
  cases h
theorem fit (k : Nat) : codeFit (env k) (codeOf Try.f93) = true := by kernel_rfl
theorem lps : (loopsIn (codeOf Try.f93)).map (fun d => findLoop (firstRegion d) (codeOf Try.f93)) = (loopsIn (codeOf Try.f93)).map some := by kernel_rfl
theorem hf : Try.prog.funcs[93]? = some Try.f93 := by kernel_rfl
theorem hb : Try.f93.body = some (codeOf Try.f93) := by kernel_rfl
theorem hn : (Try.f93.name == "runtime.NumGoroutine") = false := by kernel_rfl
theorem hJ (k : Nat) : ∀ C : Ctx, C.P = Try.prog → ∀ r, InlOk C (J k) r := fun C hC r => noInl_ok
theorem sound (k : Nat) : Sound Try.prog 93 (entry k) := func_sound (E := env k) (by kernel_rfl) (by kernel_rfl) (by kernel_rfl) (by kernel_rfl) (tbl_cons (spec_l01In.sound k) tbl_nil) hf hb hn (fit k) (loops_all lps) (hJ k) (loops k) (eq k)
end spec_l01Rises

namespace spec_l13Winners
def entry (k : Nat) : Entry := ⟨[.ro (.sl 2 (.int .i64)), .ro (.int .i64)], [.own .bool], fun (a0, (a1, _)) => f k a0 a1⟩
def tbl (k : Nat) : List (Nat × Option Entry) := [(93, some (spec_l01Rises.entry k))]
abbrev R := Res [.own .bool] × Outs [.ro (.sl 2 (.int .i64)), .ro (.int .i64)]
def env (k : Nat) : Env := ⟨Try.prog, 13, AM.look none (tbl k), AM.look none []⟩
def L (k : Nat) (q : Nat) (s : St) (K : AExit → St → Option R) : Option R := none
def J (k : Nat) : Inl R := noInl
theorem eq (k : Nat) : ∀ a, aexec (env k) (J k) (L k) (codeOf Try.f55) (begSt [.ro (.sl 2 (.int .i64)), .ro (.int .i64)] a) (finK (env k) Try.f55 [.ro (.sl 2 (.int .i64)), .ro (.int .i64)] [.own .bool]) = (entry k).fn a := by intro a; kernel_rfl
theorem loops (k : Nat) : LoopsOk (env k) (J k) (L k) (codeOf Try.f55) := by
  intro c an hc han s K r h
  unfold L at h
  cases h
theorem fit (k : Nat) : codeFit (env k) (codeOf Try.f55) = true := by kernel_rfl
theorem lps : (loopsIn (codeOf Try.f55)).map (fun d => findLoop (firstRegion d) (codeOf Try.f55)) = (loopsIn (codeOf Try.f55)).map some := by kernel_rfl
theorem hf : Try.prog.funcs[55]? = some Try.f55 := by kernel_rfl
theorem hb : Try.f55.body = some (codeOf Try.f55) := by kernel_rfl
theorem hn : (Try.f55.name == "runtime.NumGoroutine") = false := by kernel_rfl
theorem hJ (k : Nat) : ∀ C : Ctx, C.P = Try.prog → ∀ r, InlOk C (J k) r := fun C hC r => noInl_ok
theorem sound (k : Nat) : Sound Try.prog 55 (entry k) := func_sound (E := env k) (by kernel_rfl) (by kernel_rfl) (by kernel_rfl) (by kernel_rfl) (tbl_cons (spec_l01Rises.sound k) tbl_nil) hf hb hn (fit k) (loops_all lps) (hJ k) (loops k) (eq k)
end spec_l13Winners

namespace spec_l13Values
def entry (k : Nat) : Entry := ⟨[.ro (.sl 2 (.int .i64)), .ro (.int .i64)], [.own .bool], fun (a0, (a1, _)) => f k a0 a1⟩
def tbl (k : Nat) : List (Nat × Option Entry) := []
abbrev R := Res [.own .bool] × Outs [.ro (.sl 2 (.int .i64)), .ro (.int .i64)]
def env (k : Nat) : Env := ⟨Try.prog, 21, AM.look none (tbl k), AM.look none [(2, some ⟨[(0, .asis), (1, .asis), (5, .asis)], [(0, .asis), (1, .asis), (4, .asis)]⟩)]⟩
def sh2 : Shape := ⟨[(0, .val (.sl 2 (.int .i64))), (1, .val (.int .i64)), (5, .val (.int .i64))], [], 0, []⟩
def osh2kx0 : Shape := ⟨[(0, .val (.sl 2 (.int .i64))), (1, .val (.int .i64)), (4, .undef)], [], 0, []⟩
def osh2kr : Shape := ⟨[(0, .val (.sl 2 (.int .i64))), (1, .val (.int .i64)), (4, .val .bool)], [], 0, []⟩
def un2 : (List Int) × Int × Int → sh2.V := fun (x0, x1, x5) => ((x0, (x1, (x5, ()))), ())
def fl2 : sh2.V → (List Int) × Int × Int := fun ((x0, (x1, (x5, _))), _) => (x0, x1, x5)
def L (k : Nat) (q : Nat) (s : St) (K : AExit → St → Option R) : Option R := bif Nat.beq q 2 then (match sh2.dec s with | some v => l2 (R := R) k k (fl2 v) (fun (x0, x1) => K (.exit 0) (osh2kx0.enc ((x0, (x1, ((), ()))), ()))) (fun (x0, x1, x4) => K .ret (osh2kr.enc ((x0, (x1, (x4, ()))), ()))) | none => none) else (none)
def J (k : Nat) : Inl R := noInl
theorem step2 (k n : Nat) (K : AExit → St → Option R) : ∀ v, aloop (aexec (env k) (J k) (L k) ((findLoop 2 (codeOf Try.f79)).getD .skip)) (normSt [(0, .asis), (1, .asis), (5, .asis)]) (normSt [(0, .asis), (1, .asis), (4, .asis)]) K (n + 1) (sh2.enc (un2 v)) = s2 (R := R) k (fun w => aloop (aexec (env k) (J k) (L k) ((findLoop 2 (codeOf Try.f79)).getD .skip)) (normSt [(0, .asis), (1, .asis), (5, .asis)]) (normSt [(0, .asis), (1, .asis), (4, .asis)]) K n (sh2.enc (un2 w))) (fun (x0, x1) => K (.exit 0) (osh2kx0.enc ((x0, (x1, ((), ()))), ()))) (fun (x0, x1, x4) => K .ret (osh2kr.enc ((x0, (x1, (x4, ()))), ()))) v := by intro v; kernel_rfl
theorem eq (k : Nat) : ∀ a, aexec (env k) (J k) (L k) (codeOf Try.f79) (begSt [.ro (.sl 2 (.int .i64)), .ro (.int .i64)] a) (finK (env k) Try.f79 [.ro (.sl 2 (.int .i64)), .ro (.int .i64)] [.own .bool]) = (entry k).fn a := by intro a; kernel_rfl
theorem run2 (k : Nat) (K : AExit → St → Option R) : ∀ n v, aloop (aexec (env k) (J k) (L k) ((findLoop 2 (codeOf Try.f79)).getD .skip)) (normSt [(0, .asis), (1, .asis), (5, .asis)]) (normSt [(0, .asis), (1, .asis), (4, .asis)]) K n (sh2.enc (un2 v)) = l2 (R := R) k n v (fun (x0, x1) => K (.exit 0) (osh2kx0.enc ((x0, (x1, ((), ()))), ()))) (fun (x0, x1, x4) => K .ret (osh2kr.enc ((x0, (x1, (x4, ()))), ()))) := loop_eq (fun n v => aloop (aexec (env k) (J k) (L k) ((findLoop 2 (codeOf Try.f79)).getD .skip)) (normSt [(0, .asis), (1, .asis), (5, .asis)]) (normSt [(0, .asis), (1, .asis), (4, .asis)]) K n (sh2.enc (un2 v))) (fun n v => l2 (R := R) k n v (fun (x0, x1) => K (.exit 0) (osh2kx0.enc ((x0, (x1, ((), ()))), ()))) (fun (x0, x1, x4) => K .ret (osh2kr.enc ((x0, (x1, (x4, ()))), ())))) (fun X v => s2 (R := R) k X (fun (x0, x1) => K (.exit 0) (osh2kx0.enc ((x0, (x1, ((), ()))), ()))) (fun (x0, x1, x4) => K .ret (osh2kr.enc ((x0, (x1, (x4, ()))), ()))) v) (fun _ => rfl) (fun n v => step2 k n K v) (fun n v => rfl)
theorem loops (k : Nat) : LoopsOk (env k) (J k) (L k) (codeOf Try.f79) := by
  intro c an hc han s K r h
  unfold L at h
  by_cases q2 : firstRegion c = 2
  · have h1 := key_eq q2 h
    rw [q2] at hc han
    have e2 : an = ⟨[(0, .asis), (1, .asis), (5, .asis)], [(0, .asis), (1, .asis), (4, .asis)]⟩ := (Option.some.inj (show some _ = some an from han)).symm
    have e1 : c = (findLoop 2 (codeOf Try.f79)).getD .skip := by rw [hc]; rfl
    cases hd : sh2.dec s with
    | none => rw [hd] at h1; cases h1
    | some v =>
      rw [hd] at h1
      refine ⟨k, ?_⟩
      rw [e1, e2, Shape.dec_enc _ _ _ hd]
      exact (run2 k K k (fl2 v)).trans h1
  have h := not_key q2 h
  cases h
theorem fit (k : Nat) : codeFit (env k) (codeOf Try.f79) = true := by kernel_rfl
theorem lps : (loopsIn (codeOf Try.f79)).map (fun d => findLoop (firstRegion d) (codeOf Try.f79)) = (loopsIn (codeOf Try.f79)).map some := by kernel_rfl
theorem hf : Try.prog.funcs[79]? = some Try.f79 := by kernel_rfl
theorem hb : Try.f79.body = some (codeOf Try.f79) := by kernel_rfl
theorem hn : (Try.f79.name == "runtime.NumGoroutine") = false := by kernel_rfl
theorem hJ (k : Nat) : ∀ C : Ctx, C.P = Try.prog → ∀ r, InlOk C (J k) r := fun C hC r => noInl_ok
theorem sound (k : Nat) : Sound Try.prog 79 (entry k) := func_sound (E := env k) (by kernel_rfl) (by kernel_rfl) (by kernel_rfl) (by kernel_rfl) tbl_nil hf hb hn (fit k) (loops_all lps) (hJ k) (loops k) (eq k)
end spec_l13Values

namespace spec_l13Code
def entry (k : Nat) : Entry := ⟨[.ro (.sl 2 (.int .i64)), .ro (.sl 2 (.int .i64))], [.own (.int .i64)], fun (a0, (a1, _)) => f k a0 a1⟩
def tbl (k : Nat) : List (Nat × Option Entry) := [(54, some (spec_l13Seats.entry k)), (55, some (spec_l13Winners.entry k)), (79, some (spec_l13Values.entry k))]
abbrev R := Res [.own (.int .i64)] × Outs [.ro (.sl 2 (.int .i64)), .ro (.sl 2 (.int .i64))]
def env (k : Nat) : Env := ⟨Try.prog, 22, AM.look none (tbl k), AM.look none []⟩
def L (k : Nat) (q : Nat) (s : St) (K : AExit → St → Option R) : Option R := none
def J (k : Nat) : Inl R := noInl
theorem eq (k : Nat) : ∀ a, aexec (env k) (J k) (L k) (codeOf Try.f96) (begSt [.ro (.sl 2 (.int .i64)), .ro (.sl 2 (.int .i64))] a) (finK (env k) Try.f96 [.ro (.sl 2 (.int .i64)), .ro (.sl 2 (.int .i64))] [.own (.int .i64)]) = (entry k).fn a := by intro a; kernel_rfl
theorem loops (k : Nat) : LoopsOk (env k) (J k) (L k) (codeOf Try.f96) := by
  intro c an hc han s K r h
  unfold L at h
  cases h
theorem fit (k : Nat) : codeFit (env k) (codeOf Try.f96) = true := by kernel_rfl
theorem lps : (loopsIn (codeOf Try.f96)).map (fun d => findLoop (firstRegion d) (codeOf Try.f96)) = (loopsIn (codeOf Try.f96)).map some := by kernel_rfl
theorem hf : Try.prog.funcs[96]? = some Try.f96 := by kernel_rfl
theorem hb : Try.f96.body = some (codeOf Try.f96) := by kernel_rfl
theorem hn : (Try.f96.name == "runtime.NumGoroutine") = false := by kernel_rfl
theorem hJ (k : Nat) : ∀ C : Ctx, C.P = Try.prog → ∀ r, InlOk C (J k) r := fun C hC r => noInl_ok
theorem sound (k : Nat) : Sound Try.prog 96 (entry k) := func_sound (E := env k) (by kernel_rfl) (by kernel_rfl) (by kernel_rfl) (by kernel_rfl) (tbl_cons (spec_l13Seats.sound k) (tbl_cons (spec_l13Winners.sound k) (tbl_cons (spec_l13Values.sound k) tbl_nil))) hf hb hn (fit k) (loops_all lps) (hJ k) (loops k) (eq k)
end spec_l13Code

namespace spec_l13Best
def entry (k : Nat) : Entry := ⟨[.ro (.sl 2 (.int .i64)), .ro (.sl 2 (.int .i64)), .ro .bool], [.own (.sl 2 (.int .i64))], fun (a0, (a1, (a2, _))) => f k a0 a1 a2⟩
def tbl (k : Nat) : List (Nat × Option Entry) := []
abbrev R := Res [.own (.sl 2 (.int .i64))] × Outs [.ro (.sl 2 (.int .i64)), .ro (.sl 2 (.int .i64)), .ro .bool]
def env (k : Nat) : Env := ⟨Try.prog, 66, AM.look none (tbl k), AM.look none [(4, some ⟨[(0, .asis), (1, .asis), (2, .asis), (7, .asis), (8, .asis), (9, .asis)], [(7, .asis)]⟩)]⟩
def sh4 : Shape := ⟨[(0, .val (.sl 2 (.int .i64))), (1, .val (.sl 2 (.int .i64))), (2, .val .bool), (7, .ref 0), (8, .val (.int .i64)), (9, .val (.int .i64))], [(0, .row 2 (.int .i64))], 1, []⟩
def osh4kx0 : Shape := ⟨[(7, .ref 0)], [(0, .row 2 (.int .i64))], 1, []⟩
def un4 : (List Int) × (List Int) × Bool × Int × Int × (List Int) → sh4.V := fun (x0, x1, x2, x8, x9, y0) => ((x0, (x1, (x2, ((), (x8, (x9, ())))))), (y0, ()))
def fl4 : sh4.V → (List Int) × (List Int) × Bool × Int × Int × (List Int) := fun ((x0, (x1, (x2, (_, (x8, (x9, _)))))), (y0, _)) => (x0, x1, x2, x8, x9, y0)
def L (k : Nat) (q : Nat) (s : St) (K : AExit → St → Option R) : Option R := bif Nat.beq q 4 then (match sh4.dec s with | some v => l4 (R := R) k k (fl4 v) (fun y0 => K (.exit 0) (osh4kx0.enc (((), ()), (y0, ())))) | none => none) else (none)
def J (k : Nat) : Inl R := noInl
theorem step4 (k n : Nat) (K : AExit → St → Option R) : ∀ v, aloop (aexec (env k) (J k) (L k) ((findLoop 4 (codeOf Try.f97)).getD .skip)) (normSt [(0, .asis), (1, .asis), (2, .asis), (7, .asis), (8, .asis), (9, .asis)]) (normSt [(7, .asis)]) K (n + 1) (sh4.enc (un4 v)) = s4 (R := R) k (fun w => aloop (aexec (env k) (J k) (L k) ((findLoop 4 (codeOf Try.f97)).getD .skip)) (normSt [(0, .asis), (1, .asis), (2, .asis), (7, .asis), (8, .asis), (9, .asis)]) (normSt [(7, .asis)]) K n (sh4.enc (un4 w))) (fun y0 => K (.exit 0) (osh4kx0.enc (((), ()), (y0, ())))) v := by intro v; kernel_rfl
theorem eq (k : Nat) : ∀ a, aexec (env k) (J k) (L k) (codeOf Try.f97) (begSt [.ro (.sl 2 (.int .i64)), .ro (.sl 2 (.int .i64)), .ro .bool] a) (finK (env k) Try.f97 [.ro (.sl 2 (.int .i64)), .ro (.sl 2 (.int .i64)), .ro .bool] [.own (.sl 2 (.int .i64))]) = (entry k).fn a := by intro a; kernel_rfl
theorem run4 (k : Nat) (K : AExit → St → Option R) : ∀ n v, aloop (aexec (env k) (J k) (L k) ((findLoop 4 (codeOf Try.f97)).getD .skip)) (normSt [(0, .asis), (1, .asis), (2, .asis), (7, .asis), (8, .asis), (9, .asis)]) (normSt [(7, .asis)]) K n (sh4.enc (un4 v)) = l4 (R := R) k n v (fun y0 => K (.exit 0) (osh4kx0.enc (((), ()), (y0, ())))) := loop_eq (fun n v => aloop (aexec (env k) (J k) (L k) ((findLoop 4 (codeOf Try.f97)).getD .skip)) (normSt [(0, .asis), (1, .asis), (2, .asis), (7, .asis), (8, .asis), (9, .asis)]) (normSt [(7, .asis)]) K n (sh4.enc (un4 v))) (fun n v => l4 (R := R) k n v (fun y0 => K (.exit 0) (osh4kx0.enc (((), ()), (y0, ()))))) (fun X v => s4 (R := R) k X (fun y0 => K (.exit 0) (osh4kx0.enc (((), ()), (y0, ())))) v) (fun _ => rfl) (fun n v => step4 k n K v) (fun n v => rfl)
theorem loops (k : Nat) : LoopsOk (env k) (J k) (L k) (codeOf Try.f97) := by
  intro c an hc han s K r h
  unfold L at h
  by_cases q4 : firstRegion c = 4
  · have h1 := key_eq q4 h
    rw [q4] at hc han
    have e2 : an = ⟨[(0, .asis), (1, .asis), (2, .asis), (7, .asis), (8, .asis), (9, .asis)], [(7, .asis)]⟩ := (Option.some.inj (show some _ = some an from han)).symm
    have e1 : c = (findLoop 4 (codeOf Try.f97)).getD .skip := by rw [hc]; rfl
    cases hd : sh4.dec s with
    | none => rw [hd] at h1; cases h1
    | some v =>
      rw [hd] at h1
      refine ⟨k, ?_⟩
      rw [e1, e2, Shape.dec_enc _ _ _ hd]
      exact (run4 k K k (fl4 v)).trans h1
  have h := not_key q4 h
  cases h
theorem fit (k : Nat) : codeFit (env k) (codeOf Try.f97) = true := by kernel_rfl
theorem lps : (loopsIn (codeOf Try.f97)).map (fun d => findLoop (firstRegion d) (codeOf Try.f97)) = (loopsIn (codeOf Try.f97)).map some := by kernel_rfl
theorem hf : Try.prog.funcs[97]? = some Try.f97 := by kernel_rfl
theorem hb : Try.f97.body = some (codeOf Try.f97) := by kernel_rfl
theorem hn : (Try.f97.name == "runtime.NumGoroutine") = false := by kernel_rfl
theorem hJ (k : Nat) : ∀ C : Ctx, C.P = Try.prog → ∀ r, InlOk C (J k) r := fun C hC r => noInl_ok
theorem sound (k : Nat) : Sound Try.prog 97 (entry k) := func_sound (E := env k) (by kernel_rfl) (by kernel_rfl) (by kernel_rfl) (by kernel_rfl) tbl_nil hf hb hn (fit k) (loops_all lps) (hJ k) (loops k) (eq k)
end spec_l13Best

namespace spec_l13Some
def entry (k : Nat) : Entry := ⟨[.ro (.sl 2 (.int .i64)), .ro (.sl 2 (.int .i64)), .ro .bool], [.own (.sl 2 (.int .i64)), .own (.int .i64)], fun (a0, (a1, (a2, _))) => f k a0 a1 a2⟩
def tbl (k : Nat) : List (Nat × Option Entry) := [(96, some (spec_l13Code.entry k)), (97, some (spec_l13Best.entry k))]
abbrev R := Res [.own (.sl 2 (.int .i64)), .own (.int .i64)] × Outs [.ro (.sl 2 (.int .i64)), .ro (.sl 2 (.int .i64)), .ro .bool]
def env (k : Nat) : Env := ⟨Try.prog, 24, AM.look none (tbl k), AM.look none []⟩
def L (k : Nat) (q : Nat) (s : St) (K : AExit → St → Option R) : Option R := none
def J (k : Nat) : Inl R := noInl
theorem eq (k : Nat) : ∀ a, aexec (env k) (J k) (L k) (codeOf Try.f62) (begSt [.ro (.sl 2 (.int .i64)), .ro (.sl 2 (.int .i64)), .ro .bool] a) (finK (env k) Try.f62 [.ro (.sl 2 (.int .i64)), .ro (.sl 2 (.int .i64)), .ro .bool] [.own (.sl 2 (.int .i64)), .own (.int .i64)]) = (entry k).fn a := by intro a; kernel_rfl
theorem loops (k : Nat) : LoopsOk (env k) (J k) (L k) (codeOf Try.f62) := by
  intro c an hc han s K r h
  unfold L at h
  cases h
theorem fit (k : Nat) : codeFit (env k) (codeOf Try.f62) = true := by kernel_rfl
theorem lps : (loopsIn (codeOf Try.f62)).map (fun d => findLoop (firstRegion d) (codeOf Try.f62)) = (loopsIn (codeOf Try.f62)).map some := by kernel_rfl
theorem hf : Try.prog.funcs[62]? = some Try.f62 := by kernel_rfl
theorem hb : Try.f62.body = some (codeOf Try.f62) := by kernel_rfl
theorem hn : (Try.f62.name == "runtime.NumGoroutine") = false := by kernel_rfl
theorem hJ (k : Nat) : ∀ C : Ctx, C.P = Try.prog → ∀ r, InlOk C (J k) r := fun C hC r => noInl_ok
theorem sound (k : Nat) : Sound Try.prog 62 (entry k) := func_sound (E := env k) (by kernel_rfl) (by kernel_rfl) (by kernel_rfl) (by kernel_rfl) (tbl_cons (spec_l13Code.sound k) (tbl_cons (spec_l13Best.sound k) tbl_nil)) hf hb hn (fit k) (loops_all lps) (hJ k) (loops k) (eq k)
end spec_l13Some

namespace spec_LowWinners
def entry (k : Nat) : Entry := ⟨[.ro (.sl 2 (.int .i64)), .ro (.sl 2 (.int .i64))], [.own (.sl 2 (.int .i64)), .own (.int .i64)], fun (a0, (a1, _)) => f k a0 a1⟩
def tbl (k : Nat) : List (Nat × Option Entry) := [(62, some (spec_l13Some.entry k))]
abbrev R := Res [.own (.sl 2 (.int .i64)), .own (.int .i64)] × Outs [.ro (.sl 2 (.int .i64)), .ro (.sl 2 (.int .i64))]
def env (k : Nat) : Env := ⟨Try.prog, 11, AM.look none (tbl k), AM.look none []⟩
def L (k : Nat) (q : Nat) (s : St) (K : AExit → St → Option R) : Option R := none
def J (k : Nat) : Inl R := noInl
theorem eq (k : Nat) : ∀ a, aexec (env k) (J k) (L k) (codeOf Try.f20) (begSt [.ro (.sl 2 (.int .i64)), .ro (.sl 2 (.int .i64))] a) (finK (env k) Try.f20 [.ro (.sl 2 (.int .i64)), .ro (.sl 2 (.int .i64))] [.own (.sl 2 (.int .i64)), .own (.int .i64)]) = (entry k).fn a := by intro a; kernel_rfl
theorem loops (k : Nat) : LoopsOk (env k) (J k) (L k) (codeOf Try.f20) := by
  intro c an hc han s K r h
  unfold L at h
  cases h
theorem fit (k : Nat) : codeFit (env k) (codeOf Try.f20) = true := by kernel_rfl
theorem lps : (loopsIn (codeOf Try.f20)).map (fun d => findLoop (firstRegion d) (codeOf Try.f20)) = (loopsIn (codeOf Try.f20)).map some := by kernel_rfl
theorem hf : Try.prog.funcs[20]? = some Try.f20 := by kernel_rfl
theorem hb : Try.f20.body = some (codeOf Try.f20) := by kernel_rfl
theorem hn : (Try.f20.name == "runtime.NumGoroutine") = false := by kernel_rfl
theorem hJ (k : Nat) : ∀ C : Ctx, C.P = Try.prog → ∀ r, InlOk C (J k) r := fun C hC r => noInl_ok
theorem sound (k : Nat) : Sound Try.prog 20 (entry k) := func_sound (E := env k) (by kernel_rfl) (by kernel_rfl) (by kernel_rfl) (by kernel_rfl) (tbl_cons (spec_l13Some.sound k) tbl_nil) hf hb hn (fit k) (loops_all lps) (hJ k) (loops k) (eq k)
end spec_LowWinners

namespace impl_within
def entry (k : Nat) : Entry := ⟨[.ro (.int .i64), .ro (.int .i64), .ro (.int .i64)], [.own .bool], fun (a0, (a1, (a2, _))) => f k a0 a1 a2⟩
def tbl (k : Nat) : List (Nat × Option Entry) := []
abbrev R := Res [.own .bool] × Outs [.ro (.int .i64), .ro (.int .i64), .ro (.int .i64)]
def env (k : Nat) : Env := ⟨Try.prog, 15, AM.look none (tbl k), AM.look none []⟩
def L (k : Nat) (q : Nat) (s : St) (K : AExit → St → Option R) : Option R := none
def J (k : Nat) : Inl R := noInl
theorem eq (k : Nat) : ∀ a, aexec (env k) (J k) (L k) (codeOf Try.f59) (begSt [.ro (.int .i64), .ro (.int .i64), .ro (.int .i64)] a) (finK (env k) Try.f59 [.ro (.int .i64), .ro (.int .i64), .ro (.int .i64)] [.own .bool]) = (entry k).fn a := by intro a; kernel_rfl
theorem loops (k : Nat) : LoopsOk (env k) (J k) (L k) (codeOf Try.f59) := by
  intro c an hc han s K r h
  unfold L at h
  cases h
theorem fit (k : Nat) : codeFit (env k) (codeOf Try.f59) = true := by kernel_rfl
theorem lps : (loopsIn (codeOf Try.f59)).map (fun d => findLoop (firstRegion d) (codeOf Try.f59)) = (loopsIn (codeOf Try.f59)).map some := by kernel_rfl
theorem hf : Try.prog.funcs[59]? = some Try.f59 := by kernel_rfl
theorem hb : Try.f59.body = some (codeOf Try.f59) := by kernel_rfl
theorem hn : (Try.f59.name == "runtime.NumGoroutine") = false := by kernel_rfl
theorem hJ (k : Nat) : ∀ C : Ctx, C.P = Try.prog → ∀ r, InlOk C (J k) r := fun C hC r => noInl_ok
theorem sound (k : Nat) : Sound Try.prog 59 (entry k) := func_sound (E := env k) (by kernel_rfl) (by kernel_rfl) (by kernel_rfl) (by kernel_rfl) tbl_nil hf hb hn (fit k) (loops_all lps) (hJ k) (loops k) (eq k)
end impl_within

namespace impl_allWithin
def entry (k : Nat) : Entry := ⟨[.ro (.sl 2 (.int .i64)), .ro (.int .i64), .ro (.int .i64)], [.own .bool], fun (a0, (a1, (a2, _))) => f k a0 a1 a2⟩
def tbl (k : Nat) : List (Nat × Option Entry) := [(59, some (impl_within.entry k))]
abbrev R := Res [.own .bool] × Outs [.ro (.sl 2 (.int .i64)), .ro (.int .i64), .ro (.int .i64)]
def env (k : Nat) : Env := ⟨Try.prog, 21, AM.look none (tbl k), AM.look none [(2, some ⟨[(1, .asis), (2, .asis), (9, .asis), (10, .asis), (11, .asis)], [(6, .asis)]⟩)]⟩
def sh2 : Shape := ⟨[(1, .val (.int .i64)), (2, .val (.int .i64)), (9, .val (.sl 2 (.int .i64))), (10, .val (.int .i64)), (11, .val (.int .i64))], [], 0, []⟩
def osh2kx0 : Shape := ⟨[(6, .undef)], [], 0, []⟩
def osh2kr : Shape := ⟨[(6, .val .bool)], [], 0, []⟩
def un2 : Int × Int × (List Int) × Int × Int → sh2.V := fun (x1, x2, x9, x10, x11) => ((x1, (x2, (x9, (x10, (x11, ()))))), ())
def fl2 : sh2.V → Int × Int × (List Int) × Int × Int := fun ((x1, (x2, (x9, (x10, (x11, _))))), _) => (x1, x2, x9, x10, x11)
def L (k : Nat) (q : Nat) (s : St) (K : AExit → St → Option R) : Option R := bif Nat.beq q 2 then (match sh2.dec s with | some v => l2 (R := R) k k (fl2 v) (fun (_ : Unit) => K (.exit 0) (osh2kx0.enc (((), ()), ()))) (fun x6 => K .ret (osh2kr.enc ((x6, ()), ()))) | none => none) else (none)
def J (k : Nat) : Inl R := noInl
theorem step2 (k n : Nat) (K : AExit → St → Option R) : ∀ v, aloop (aexec (env k) (J k) (L k) ((findLoop 2 (codeOf Try.f87)).getD .skip)) (normSt [(1, .asis), (2, .asis), (9, .asis), (10, .asis), (11, .asis)]) (normSt [(6, .asis)]) K (n + 1) (sh2.enc (un2 v)) = s2 (R := R) k (fun w => aloop (aexec (env k) (J k) (L k) ((findLoop 2 (codeOf Try.f87)).getD .skip)) (normSt [(1, .asis), (2, .asis), (9, .asis), (10, .asis), (11, .asis)]) (normSt [(6, .asis)]) K n (sh2.enc (un2 w))) (fun (_ : Unit) => K (.exit 0) (osh2kx0.enc (((), ()), ()))) (fun x6 => K .ret (osh2kr.enc ((x6, ()), ()))) v := by intro v; kernel_rfl
theorem eq (k : Nat) : ∀ a, aexec (env k) (J k) (L k) (codeOf Try.f87) (begSt [.ro (.sl 2 (.int .i64)), .ro (.int .i64), .ro (.int .i64)] a) (finK (env k) Try.f87 [.ro (.sl 2 (.int .i64)), .ro (.int .i64), .ro (.int .i64)] [.own .bool]) = (entry k).fn a := by intro a; kernel_rfl
theorem run2 (k : Nat) (K : AExit → St → Option R) : ∀ n v, aloop (aexec (env k) (J k) (L k) ((findLoop 2 (codeOf Try.f87)).getD .skip)) (normSt [(1, .asis), (2, .asis), (9, .asis), (10, .asis), (11, .asis)]) (normSt [(6, .asis)]) K n (sh2.enc (un2 v)) = l2 (R := R) k n v (fun (_ : Unit) => K (.exit 0) (osh2kx0.enc (((), ()), ()))) (fun x6 => K .ret (osh2kr.enc ((x6, ()), ()))) := loop_eq (fun n v => aloop (aexec (env k) (J k) (L k) ((findLoop 2 (codeOf Try.f87)).getD .skip)) (normSt [(1, .asis), (2, .asis), (9, .asis), (10, .asis), (11, .asis)]) (normSt [(6, .asis)]) K n (sh2.enc (un2 v))) (fun n v => l2 (R := R) k n v (fun (_ : Unit) => K (.exit 0) (osh2kx0.enc (((), ()), ()))) (fun x6 => K .ret (osh2kr.enc ((x6, ()), ())))) (fun X v => s2 (R := R) k X (fun (_ : Unit) => K (.exit 0) (osh2kx0.enc (((), ()), ()))) (fun x6 => K .ret (osh2kr.enc ((x6, ()), ()))) v) (fun _ => rfl) (fun n v => step2 k n K v) (fun n v => rfl)
theorem loops (k : Nat) : LoopsOk (env k) (J k) (L k) (codeOf Try.f87) := by
  intro c an hc han s K r h
  unfold L at h
  by_cases q2 : firstRegion c = 2
  · have h1 := key_eq q2 h
    rw [q2] at hc han
    have e2 : an = ⟨[(1, .asis), (2, .asis), (9, .asis), (10, .asis), (11, .asis)], [(6, .asis)]⟩ := (Option.some.inj (show some _ = some an from han)).symm
    have e1 : c = (findLoop 2 (codeOf Try.f87)).getD .skip := by rw [hc]; rfl
    cases hd : sh2.dec s with
    | none => rw [hd] at h1; cases h1
    | some v =>
      rw [hd] at h1
      refine ⟨k, ?_⟩
      rw [e1, e2, Shape.dec_enc _ _ _ hd]
      exact (run2 k K k (fl2 v)).trans h1
  have h := not_key q2 h
  cases h
theorem fit (k : Nat) : codeFit (env k) (codeOf Try.f87) = true := by kernel_rfl
theorem lps : (loopsIn (codeOf Try.f87)).map (fun d => findLoop (firstRegion d) (codeOf Try.f87)) = (loopsIn (codeOf Try.f87)).map some := by kernel_rfl
theorem hf : Try.prog.funcs[87]? = some Try.f87 := by kernel_rfl
theorem hb : Try.f87.body = some (codeOf Try.f87) := by kernel_rfl
theorem hn : (Try.f87.name == "runtime.NumGoroutine") = false := by kernel_rfl
theorem hJ (k : Nat) : ∀ C : Ctx, C.P = Try.prog → ∀ r, InlOk C (J k) r := fun C hC r => noInl_ok
theorem sound (k : Nat) : Sound Try.prog 87 (entry k) := func_sound (E := env k) (by kernel_rfl) (by kernel_rfl) (by kernel_rfl) (by kernel_rfl) (tbl_cons (impl_within.sound k) tbl_nil) hf hb hn (fit k) (loops_all lps) (hJ k) (loops k) (eq k)
end impl_allWithin

namespace impl_increasing
def entry (k : Nat) : Entry := ⟨[.ro (.sl 2 (.int .i64))], [.own .bool], fun (a0, _) => f k a0⟩
def tbl (k : Nat) : List (Nat × Option Entry) := []
abbrev R := Res [.own .bool] × Outs [.ro (.sl 2 (.int .i64))]
def env (k : Nat) : Env := ⟨Try.prog, 20, AM.look none (tbl k), AM.look none [(2, some ⟨[(0, .asis), (3, .asis)], [(2, .asis)]⟩)]⟩
def sh2 : Shape := ⟨[(0, .val (.sl 2 (.int .i64))), (3, .val (.int .i64))], [], 0, []⟩
def osh2kx0 : Shape := ⟨[(2, .undef)], [], 0, []⟩
def osh2kr : Shape := ⟨[(2, .val .bool)], [], 0, []⟩
def un2 : (List Int) × Int → sh2.V := fun (x0, x3) => ((x0, (x3, ())), ())
def fl2 : sh2.V → (List Int) × Int := fun ((x0, (x3, _)), _) => (x0, x3)
def L (k : Nat) (q : Nat) (s : St) (K : AExit → St → Option R) : Option R := bif Nat.beq q 2 then (match sh2.dec s with | some v => l2 (R := R) k k (fl2 v) (fun (_ : Unit) => K (.exit 0) (osh2kx0.enc (((), ()), ()))) (fun x2 => K .ret (osh2kr.enc ((x2, ()), ()))) | none => none) else (none)
def J (k : Nat) : Inl R := noInl
theorem step2 (k n : Nat) (K : AExit → St → Option R) : ∀ v, aloop (aexec (env k) (J k) (L k) ((findLoop 2 (codeOf Try.f95)).getD .skip)) (normSt [(0, .asis), (3, .asis)]) (normSt [(2, .asis)]) K (n + 1) (sh2.enc (un2 v)) = s2 (R := R) k (fun w => aloop (aexec (env k) (J k) (L k) ((findLoop 2 (codeOf Try.f95)).getD .skip)) (normSt [(0, .asis), (3, .asis)]) (normSt [(2, .asis)]) K n (sh2.enc (un2 w))) (fun (_ : Unit) => K (.exit 0) (osh2kx0.enc (((), ()), ()))) (fun x2 => K .ret (osh2kr.enc ((x2, ()), ()))) v := by intro v; kernel_rfl
theorem eq (k : Nat) : ∀ a, aexec (env k) (J k) (L k) (codeOf Try.f95) (begSt [.ro (.sl 2 (.int .i64))] a) (finK (env k) Try.f95 [.ro (.sl 2 (.int .i64))] [.own .bool]) = (entry k).fn a := by intro a; kernel_rfl
theorem run2 (k : Nat) (K : AExit → St → Option R) : ∀ n v, aloop (aexec (env k) (J k) (L k) ((findLoop 2 (codeOf Try.f95)).getD .skip)) (normSt [(0, .asis), (3, .asis)]) (normSt [(2, .asis)]) K n (sh2.enc (un2 v)) = l2 (R := R) k n v (fun (_ : Unit) => K (.exit 0) (osh2kx0.enc (((), ()), ()))) (fun x2 => K .ret (osh2kr.enc ((x2, ()), ()))) := loop_eq (fun n v => aloop (aexec (env k) (J k) (L k) ((findLoop 2 (codeOf Try.f95)).getD .skip)) (normSt [(0, .asis), (3, .asis)]) (normSt [(2, .asis)]) K n (sh2.enc (un2 v))) (fun n v => l2 (R := R) k n v (fun (_ : Unit) => K (.exit 0) (osh2kx0.enc (((), ()), ()))) (fun x2 => K .ret (osh2kr.enc ((x2, ()), ())))) (fun X v => s2 (R := R) k X (fun (_ : Unit) => K (.exit 0) (osh2kx0.enc (((), ()), ()))) (fun x2 => K .ret (osh2kr.enc ((x2, ()), ()))) v) (fun _ => rfl) (fun n v => step2 k n K v) (fun n v => rfl)
theorem loops (k : Nat) : LoopsOk (env k) (J k) (L k) (codeOf Try.f95) := by
  intro c an hc han s K r h
  unfold L at h
  by_cases q2 : firstRegion c = 2
  · have h1 := key_eq q2 h
    rw [q2] at hc han
    have e2 : an = ⟨[(0, .asis), (3, .asis)], [(2, .asis)]⟩ := (Option.some.inj (show some _ = some an from han)).symm
    have e1 : c = (findLoop 2 (codeOf Try.f95)).getD .skip := by rw [hc]; rfl
    cases hd : sh2.dec s with
    | none => rw [hd] at h1; cases h1
    | some v =>
      rw [hd] at h1
      refine ⟨k, ?_⟩
      rw [e1, e2, Shape.dec_enc _ _ _ hd]
      exact (run2 k K k (fl2 v)).trans h1
  have h := not_key q2 h
  cases h
theorem fit (k : Nat) : codeFit (env k) (codeOf Try.f95) = true := by kernel_rfl
theorem lps : (loopsIn (codeOf Try.f95)).map (fun d => findLoop (firstRegion d) (codeOf Try.f95)) = (loopsIn (codeOf Try.f95)).map some := by kernel_rfl
theorem hf : Try.prog.funcs[95]? = some Try.f95 := by kernel_rfl
theorem hb : Try.f95.body = some (codeOf Try.f95) := by kernel_rfl
theorem hn : (Try.f95.name == "runtime.NumGoroutine") = false := by kernel_rfl
theorem hJ (k : Nat) : ∀ C : Ctx, C.P = Try.prog → ∀ r, InlOk C (J k) r := fun C hC r => noInl_ok
theorem sound (k : Nat) : Sound Try.prog 95 (entry k) := func_sound (E := env k) (by kernel_rfl) (by kernel_rfl) (by kernel_rfl) (by kernel_rfl) tbl_nil hf hb hn (fit k) (loops_all lps) (hJ k) (loops k) (eq k)
end impl_increasing

namespace impl_areWinners
def entry (k : Nat) : Entry := ⟨[.ro (.sl 2 (.int .i64)), .ro (.int .i64)], [.own .bool], fun (a0, (a1, _)) => f k a0 a1⟩
def tbl (k : Nat) : List (Nat × Option Entry) := [(87, some (impl_allWithin.entry k)), (95, some (impl_increasing.entry k))]
abbrev R := Res [.own .bool] × Outs [.ro (.sl 2 (.int .i64)), .ro (.int .i64)]
def env (k : Nat) : Env := ⟨Try.prog, 18, AM.look none (tbl k), AM.look none []⟩
def L (k : Nat) (q : Nat) (s : St) (K : AExit → St → Option R) : Option R := none
def J (k : Nat) : Inl R := noInl
theorem eq (k : Nat) : ∀ a, aexec (env k) (J k) (L k) (codeOf Try.f60) (begSt [.ro (.sl 2 (.int .i64)), .ro (.int .i64)] a) (finK (env k) Try.f60 [.ro (.sl 2 (.int .i64)), .ro (.int .i64)] [.own .bool]) = (entry k).fn a := by intro a; kernel_rfl
theorem loops (k : Nat) : LoopsOk (env k) (J k) (L k) (codeOf Try.f60) := by
  intro c an hc han s K r h
  unfold L at h
  cases h
theorem fit (k : Nat) : codeFit (env k) (codeOf Try.f60) = true := by kernel_rfl
theorem lps : (loopsIn (codeOf Try.f60)).map (fun d => findLoop (firstRegion d) (codeOf Try.f60)) = (loopsIn (codeOf Try.f60)).map some := by kernel_rfl
theorem hf : Try.prog.funcs[60]? = some Try.f60 := by kernel_rfl
theorem hb : Try.f60.body = some (codeOf Try.f60) := by kernel_rfl
theorem hn : (Try.f60.name == "runtime.NumGoroutine") = false := by kernel_rfl
theorem hJ (k : Nat) : ∀ C : Ctx, C.P = Try.prog → ∀ r, InlOk C (J k) r := fun C hC r => noInl_ok
theorem sound (k : Nat) : Sound Try.prog 60 (entry k) := func_sound (E := env k) (by kernel_rfl) (by kernel_rfl) (by kernel_rfl) (by kernel_rfl) (tbl_cons (impl_allWithin.sound k) (tbl_cons (impl_increasing.sound k) tbl_nil)) hf hb hn (fit k) (loops_all lps) (hJ k) (loops k) (eq k)
end impl_areWinners

namespace impl_areValues_1
def entry (k : Nat) : Entry := ⟨[.ro (.int .i64)], [.own .bool], fun (a0, _) => f k a0⟩
def tbl (k : Nat) : List (Nat × Option Entry) := []
abbrev R := Res [.own .bool] × Outs [.ro (.int .i64)]
def env (k : Nat) : Env := ⟨Try.prog, 5, AM.look none (tbl k), AM.look none []⟩
def L (k : Nat) (q : Nat) (s : St) (K : AExit → St → Option R) : Option R := none
def J (k : Nat) : Inl R := noInl
theorem eq (k : Nat) : ∀ a, aexec (env k) (J k) (L k) (codeOf Try.f100) (begSt [.ro (.int .i64)] a) (finK (env k) Try.f100 [.ro (.int .i64)] [.own .bool]) = (entry k).fn a := by intro a; kernel_rfl
theorem loops (k : Nat) : LoopsOk (env k) (J k) (L k) (codeOf Try.f100) := by
  intro c an hc han s K r h
  unfold L at h
  cases h
theorem fit (k : Nat) : codeFit (env k) (codeOf Try.f100) = true := by kernel_rfl
theorem lps : (loopsIn (codeOf Try.f100)).map (fun d => findLoop (firstRegion d) (codeOf Try.f100)) = (loopsIn (codeOf Try.f100)).map some := by kernel_rfl
theorem hf : Try.prog.funcs[100]? = some Try.f100 := by kernel_rfl
theorem hb : Try.f100.body = some (codeOf Try.f100) := by kernel_rfl
theorem hn : (Try.f100.name == "runtime.NumGoroutine") = false := by kernel_rfl
theorem hJ (k : Nat) : ∀ C : Ctx, C.P = Try.prog → ∀ r, InlOk C (J k) r := fun C hC r => noInl_ok
theorem sound (k : Nat) : Sound Try.prog 100 (entry k) := func_sound (E := env k) (by kernel_rfl) (by kernel_rfl) (by kernel_rfl) (by kernel_rfl) tbl_nil hf hb hn (fit k) (loops_all lps) (hJ k) (loops k) (eq k)
end impl_areValues_1

namespace impl_areValues
def entry (k : Nat) : Entry := ⟨[.ro (.sl 2 (.int .i64))], [.own .bool], fun (a0, _) => f k a0⟩
def tbl (k : Nat) : List (Nat × Option Entry) := [(100, some (impl_areValues_1.entry k))]
abbrev R := Res [.own .bool] × Outs [.ro (.sl 2 (.int .i64))]
def env (k : Nat) : Env := ⟨Try.prog, 6, AM.look none (tbl k), AM.look none []⟩
def L (k : Nat) (q : Nat) (s : St) (K : AExit → St → Option R) : Option R := none
def i1001_env (k : Nat) : Env := ⟨Try.prog, 9, AM.look none (tbl k), AM.look none []⟩
def i1001_L (k : Nat) (q : Nat) (s : St) (K : AExit → St → Option R) : Option R := none
def i1001_i1002_env (k : Nat) : Env := ⟨Try.prog, 19, AM.look none (tbl k), AM.look none [(2, some ⟨[(0, .asis), (1, .asis), (7, .asis), (8, .asis)], [(4, .asis)]⟩)]⟩
def shi1001_i1002_2 : Shape := ⟨[(0, .val (.sl 2 (.int .i64))), (1, .fn 100 []), (7, .val (.int .i64)), (8, .val (.int .i64))], [], 0, []⟩
def oshi1001_i1002_2kx0 : Shape := ⟨[(4, .undef)], [], 0, []⟩
def oshi1001_i1002_2kr : Shape := ⟨[(4, .val (.int .i64))], [], 0, []⟩
def uni1001_i1002_2 : (List Int) × Int × Int → shi1001_i1002_2.V := fun (x0, x7, x8) => ((x0, ((), (x7, (x8, ())))), ())
def fli1001_i1002_2 : shi1001_i1002_2.V → (List Int) × Int × Int := fun ((x0, (_, (x7, (x8, _)))), _) => (x0, x7, x8)
def i1001_i1002_L (k : Nat) (q : Nat) (s : St) (K : AExit → St → Option R) : Option R := bif Nat.beq q 2 then (match shi1001_i1002_2.dec s with | some v => i1001_i1002_l2 (R := R) k k (fli1001_i1002_2 v) (fun (_ : Unit) => K (.exit 0) (oshi1001_i1002_2kx0.enc (((), ()), ()))) (fun x4 => K .ret (oshi1001_i1002_2kr.enc ((x4, ()), ()))) | none => none) else (none)
def i1001_i1002_J (k : Nat) : Inl R := noInl
def i1001_J (k : Nat) : Inl R := (inlCons 1002 111 (inst (i1001_i1002_env k) (i1001_i1002_J k) (i1001_i1002_L k) Try.f111 []) noInl)
def J (k : Nat) : Inl R := (inlCons 1001 99 (inst (i1001_env k) (i1001_J k) (i1001_L k) Try.f99 []) noInl)
theorem stepi1001_i1002_2 (k n : Nat) (K : AExit → St → Option R) : ∀ v, aloop (aexec (i1001_i1002_env k) (i1001_i1002_J k) (i1001_i1002_L k) ((findLoop 2 (codeOf Try.f111)).getD .skip)) (normSt [(0, .asis), (1, .asis), (7, .asis), (8, .asis)]) (normSt [(4, .asis)]) K (n + 1) (shi1001_i1002_2.enc (uni1001_i1002_2 v)) = i1001_i1002_s2 (R := R) k (fun w => aloop (aexec (i1001_i1002_env k) (i1001_i1002_J k) (i1001_i1002_L k) ((findLoop 2 (codeOf Try.f111)).getD .skip)) (normSt [(0, .asis), (1, .asis), (7, .asis), (8, .asis)]) (normSt [(4, .asis)]) K n (shi1001_i1002_2.enc (uni1001_i1002_2 w))) (fun (_ : Unit) => K (.exit 0) (oshi1001_i1002_2kx0.enc (((), ()), ()))) (fun x4 => K .ret (oshi1001_i1002_2kr.enc ((x4, ()), ()))) v := by intro v; kernel_rfl
theorem eq (k : Nat) : ∀ a, aexec (env k) (J k) (L k) (codeOf Try.f76) (begSt [.ro (.sl 2 (.int .i64))] a) (finK (env k) Try.f76 [.ro (.sl 2 (.int .i64))] [.own .bool]) = (entry k).fn a := by intro a; kernel_rfl
theorem loops (k : Nat) : LoopsOk (env k) (J k) (L k) (codeOf Try.f76) := by
  intro c an hc han s K r h
  unfold L at h
  cases h
theorem i1001_loops (k : Nat) : LoopsOk (i1001_env k) (i1001_J k) (i1001_L k) (codeOf Try.f99) := by
  intro c an hc han s K r h
  unfold i1001_L at h
  cases h
theorem runi1001_i1002_2 (k : Nat) (K : AExit → St → Option R) : ∀ n v, aloop (aexec (i1001_i1002_env k) (i1001_i1002_J k) (i1001_i1002_L k) ((findLoop 2 (codeOf Try.f111)).getD .skip)) (normSt [(0, .asis), (1, .asis), (7, .asis), (8, .asis)]) (normSt [(4, .asis)]) K n (shi1001_i1002_2.enc (uni1001_i1002_2 v)) = i1001_i1002_l2 (R := R) k n v (fun (_ : Unit) => K (.exit 0) (oshi1001_i1002_2kx0.enc (((), ()), ()))) (fun x4 => K .ret (oshi1001_i1002_2kr.enc ((x4, ()), ()))) := loop_eq (fun n v => aloop (aexec (i1001_i1002_env k) (i1001_i1002_J k) (i1001_i1002_L k) ((findLoop 2 (codeOf Try.f111)).getD .skip)) (normSt [(0, .asis), (1, .asis), (7, .asis), (8, .asis)]) (normSt [(4, .asis)]) K n (shi1001_i1002_2.enc (uni1001_i1002_2 v))) (fun n v => i1001_i1002_l2 (R := R) k n v (fun (_ : Unit) => K (.exit 0) (oshi1001_i1002_2kx0.enc (((), ()), ()))) (fun x4 => K .ret (oshi1001_i1002_2kr.enc ((x4, ()), ())))) (fun X v => i1001_i1002_s2 (R := R) k X (fun (_ : Unit) => K (.exit 0) (oshi1001_i1002_2kx0.enc (((), ()), ()))) (fun x4 => K .ret (oshi1001_i1002_2kr.enc ((x4, ()), ()))) v) (fun _ => rfl) (fun n v => stepi1001_i1002_2 k n K v) (fun n v => rfl)
theorem i1001_i1002_loops (k : Nat) : LoopsOk (i1001_i1002_env k) (i1001_i1002_J k) (i1001_i1002_L k) (codeOf Try.f111) := by
  intro c an hc han s K r h
  unfold i1001_i1002_L at h
  by_cases q2 : firstRegion c = 2
  · have h1 := key_eq q2 h
    rw [q2] at hc han
    have e2 : an = ⟨[(0, .asis), (1, .asis), (7, .asis), (8, .asis)], [(4, .asis)]⟩ := (Option.some.inj (show some _ = some an from han)).symm
    have e1 : c = (findLoop 2 (codeOf Try.f111)).getD .skip := by rw [hc]; rfl
    cases hd : shi1001_i1002_2.dec s with
    | none => rw [hd] at h1; cases h1
    | some v =>
      rw [hd] at h1
      refine ⟨k, ?_⟩
      rw [e1, e2, Shape.dec_enc _ _ _ hd]
      exact (runi1001_i1002_2 k K k (fli1001_i1002_2 v)).trans h1
  have h := not_key q2 h
  cases h
theorem i1001_i1002_fit (k : Nat) : codeFit (i1001_i1002_env k) (codeOf Try.f111) = true := by kernel_rfl
theorem i1001_i1002_lps : (loopsIn (codeOf Try.f111)).map (fun d => findLoop (firstRegion d) (codeOf Try.f111)) = (loopsIn (codeOf Try.f111)).map some := by kernel_rfl
theorem i1001_i1002_hf : Try.prog.funcs[111]? = some Try.f111 := by kernel_rfl
theorem i1001_i1002_hb : Try.f111.body = some (codeOf Try.f111) := by kernel_rfl
theorem i1001_i1002_hn : (Try.f111.name == "runtime.NumGoroutine") = false := by kernel_rfl
theorem i1001_i1002_hJ (k : Nat) : ∀ C : Ctx, C.P = Try.prog → ∀ r, InlOk C (i1001_i1002_J k) r := fun C hC r => noInl_ok
theorem i1001_i1002_one (k : Nat) (C : Ctx) (hC : C.P = Try.prog) (r : R) : OneOk C 111 (inst (i1001_i1002_env k) (i1001_i1002_J k) (i1001_i1002_L k) Try.f111 []) r := inst_ok hC (by kernel_rfl) (by kernel_rfl) (by kernel_rfl) (by kernel_rfl) (tbl_cons (impl_areValues_1.sound k) tbl_nil) i1001_i1002_hf i1001_i1002_hb i1001_i1002_hn (i1001_i1002_fit k) (loops_all i1001_i1002_lps) (fun C hC => i1001_i1002_hJ k C hC r) (i1001_i1002_loops k)
theorem i1001_fit (k : Nat) : codeFit (i1001_env k) (codeOf Try.f99) = true := by kernel_rfl
theorem i1001_lps : (loopsIn (codeOf Try.f99)).map (fun d => findLoop (firstRegion d) (codeOf Try.f99)) = (loopsIn (codeOf Try.f99)).map some := by kernel_rfl
theorem i1001_hf : Try.prog.funcs[99]? = some Try.f99 := by kernel_rfl
theorem i1001_hb : Try.f99.body = some (codeOf Try.f99) := by kernel_rfl
theorem i1001_hn : (Try.f99.name == "runtime.NumGoroutine") = false := by kernel_rfl
theorem i1001_hJ (k : Nat) : ∀ C : Ctx, C.P = Try.prog → ∀ r, InlOk C (i1001_J k) r := fun C hC r => (inlCons_ok (i1001_i1002_one k C hC r) noInl_ok)
theorem i1001_one (k : Nat) (C : Ctx) (hC : C.P = Try.prog) (r : R) : OneOk C 99 (inst (i1001_env k) (i1001_J k) (i1001_L k) Try.f99 []) r := inst_ok hC (by kernel_rfl) (by kernel_rfl) (by kernel_rfl) (by kernel_rfl) (tbl_cons (impl_areValues_1.sound k) tbl_nil) i1001_hf i1001_hb i1001_hn (i1001_fit k) (loops_all i1001_lps) (fun C hC => i1001_hJ k C hC r) (i1001_loops k)
theorem fit (k : Nat) : codeFit (env k) (codeOf Try.f76) = true := by kernel_rfl
theorem lps : (loopsIn (codeOf Try.f76)).map (fun d => findLoop (firstRegion d) (codeOf Try.f76)) = (loopsIn (codeOf Try.f76)).map some := by kernel_rfl
theorem hf : Try.prog.funcs[76]? = some Try.f76 := by kernel_rfl
theorem hb : Try.f76.body = some (codeOf Try.f76) := by kernel_rfl
theorem hn : (Try.f76.name == "runtime.NumGoroutine") = false := by kernel_rfl
theorem hJ (k : Nat) : ∀ C : Ctx, C.P = Try.prog → ∀ r, InlOk C (J k) r := fun C hC r => (inlCons_ok (i1001_one k C hC r) noInl_ok)
theorem sound (k : Nat) : Sound Try.prog 76 (entry k) := func_sound (E := env k) (by kernel_rfl) (by kernel_rfl) (by kernel_rfl) (by kernel_rfl) (tbl_cons (impl_areValues_1.sound k) tbl_nil) hf hb hn (fit k) (loops_all lps) (hJ k) (loops k) (eq k)
end impl_areValues

namespace impl_checkValues
def entry (k : Nat) : Entry := ⟨[.ro (.sl 2 (.int .i64)), .ro (.sl 2 (.int .i64))], [.own (.int .i64)], fun (a0, (a1, _)) => f k a0 a1⟩
def tbl (k : Nat) : List (Nat × Option Entry) := [(59, some (impl_within.entry k)), (60, some (impl_areWinners.entry k)), (76, some (impl_areValues.entry k))]
abbrev R := Res [.own (.int .i64)] × Outs [.ro (.sl 2 (.int .i64)), .ro (.sl 2 (.int .i64))]
def env (k : Nat) : Env := ⟨Try.prog, 20, AM.look none (tbl k), AM.look none []⟩
def L (k : Nat) (q : Nat) (s : St) (K : AExit → St → Option R) : Option R := none
def J (k : Nat) : Inl R := noInl
theorem eq (k : Nat) : ∀ a, aexec (env k) (J k) (L k) (codeOf Try.f63) (begSt [.ro (.sl 2 (.int .i64)), .ro (.sl 2 (.int .i64))] a) (finK (env k) Try.f63 [.ro (.sl 2 (.int .i64)), .ro (.sl 2 (.int .i64))] [.own (.int .i64)]) = (entry k).fn a := by intro a; kernel_rfl
theorem loops (k : Nat) : LoopsOk (env k) (J k) (L k) (codeOf Try.f63) := by
  intro c an hc han s K r h
  unfold L at h
  cases h
theorem fit (k : Nat) : codeFit (env k) (codeOf Try.f63) = true := by kernel_rfl
theorem lps : (loopsIn (codeOf Try.f63)).map (fun d => findLoop (firstRegion d) (codeOf Try.f63)) = (loopsIn (codeOf Try.f63)).map some := by kernel_rfl
theorem hf : Try.prog.funcs[63]? = some Try.f63 := by kernel_rfl
theorem hb : Try.f63.body = some (codeOf Try.f63) := by kernel_rfl
theorem hn : (Try.f63.name == "runtime.NumGoroutine") = false := by kernel_rfl
theorem hJ (k : Nat) : ∀ C : Ctx, C.P = Try.prog → ∀ r, InlOk C (J k) r := fun C hC r => noInl_ok
theorem sound (k : Nat) : Sound Try.prog 63 (entry k) := func_sound (E := env k) (by kernel_rfl) (by kernel_rfl) (by kernel_rfl) (by kernel_rfl) (tbl_cons (impl_within.sound k) (tbl_cons (impl_areWinners.sound k) (tbl_cons (impl_areValues.sound k) tbl_nil))) hf hb hn (fit k) (loops_all lps) (hJ k) (loops k) (eq k)
end impl_checkValues

namespace impl_lowWinners
def entry (k : Nat) : Entry := ⟨[.ro (.sl 2 (.int .i64)), .ro (.sl 2 (.int .i64))], [.own (.sl 2 (.int .i64))], fun (a0, (a1, _)) => f k a0 a1⟩
def tbl (k : Nat) : List (Nat × Option Entry) := []
abbrev R := Res [.own (.sl 2 (.int .i64))] × Outs [.ro (.sl 2 (.int .i64)), .ro (.sl 2 (.int .i64))]
def env (k : Nat) : Env := ⟨Try.prog, 46, AM.look none (tbl k), AM.look none [(4, some ⟨[(1, .asis), (5, .row 2 (.int .i64)), (6, .asis), (9, .asis), (10, .asis), (11, .asis)], [(5, .asis)]⟩)]⟩
def sh4 : Shape := ⟨[(1, .val (.sl 2 (.int .i64))), (5, .ref 0), (6, .val (.int .i64)), (9, .val (.sl 2 (.int .i64))), (10, .val (.int .i64)), (11, .val (.int .i64))], [(0, .row 2 (.int .i64))], 1, []⟩
def osh4kx0 : Shape := ⟨[(5, .ref 0)], [(0, .row 2 (.int .i64))], 1, []⟩
def un4 : (List Int) × Int × (List Int) × Int × Int × (List Int) → sh4.V := fun (x1, x6, x9, x10, x11, y0) => ((x1, ((), (x6, (x9, (x10, (x11, ())))))), (y0, ()))
def fl4 : sh4.V → (List Int) × Int × (List Int) × Int × Int × (List Int) := fun ((x1, (_, (x6, (x9, (x10, (x11, _)))))), (y0, _)) => (x1, x6, x9, x10, x11, y0)
def L (k : Nat) (q : Nat) (s : St) (K : AExit → St → Option R) : Option R := bif Nat.beq q 4 then (match sh4.dec s with | some v => l4 (R := R) k k (fl4 v) (fun y0 => K (.exit 0) (osh4kx0.enc (((), ()), (y0, ())))) | none => none) else (none)
def J (k : Nat) : Inl R := noInl
theorem step4 (k n : Nat) (K : AExit → St → Option R) : ∀ v, aloop (aexec (env k) (J k) (L k) ((findLoop 4 (codeOf Try.f65)).getD .skip)) (normSt [(1, .asis), (5, .row 2 (.int .i64)), (6, .asis), (9, .asis), (10, .asis), (11, .asis)]) (normSt [(5, .asis)]) K (n + 1) (sh4.enc (un4 v)) = s4 (R := R) k (fun w => aloop (aexec (env k) (J k) (L k) ((findLoop 4 (codeOf Try.f65)).getD .skip)) (normSt [(1, .asis), (5, .row 2 (.int .i64)), (6, .asis), (9, .asis), (10, .asis), (11, .asis)]) (normSt [(5, .asis)]) K n (sh4.enc (un4 w))) (fun y0 => K (.exit 0) (osh4kx0.enc (((), ()), (y0, ())))) v := by intro v; kernel_rfl
theorem eq (k : Nat) : ∀ a, aexec (env k) (J k) (L k) (codeOf Try.f65) (begSt [.ro (.sl 2 (.int .i64)), .ro (.sl 2 (.int .i64))] a) (finK (env k) Try.f65 [.ro (.sl 2 (.int .i64)), .ro (.sl 2 (.int .i64))] [.own (.sl 2 (.int .i64))]) = (entry k).fn a := by intro a; kernel_rfl
theorem run4 (k : Nat) (K : AExit → St → Option R) : ∀ n v, aloop (aexec (env k) (J k) (L k) ((findLoop 4 (codeOf Try.f65)).getD .skip)) (normSt [(1, .asis), (5, .row 2 (.int .i64)), (6, .asis), (9, .asis), (10, .asis), (11, .asis)]) (normSt [(5, .asis)]) K n (sh4.enc (un4 v)) = l4 (R := R) k n v (fun y0 => K (.exit 0) (osh4kx0.enc (((), ()), (y0, ())))) := loop_eq (fun n v => aloop (aexec (env k) (J k) (L k) ((findLoop 4 (codeOf Try.f65)).getD .skip)) (normSt [(1, .asis), (5, .row 2 (.int .i64)), (6, .asis), (9, .asis), (10, .asis), (11, .asis)]) (normSt [(5, .asis)]) K n (sh4.enc (un4 v))) (fun n v => l4 (R := R) k n v (fun y0 => K (.exit 0) (osh4kx0.enc (((), ()), (y0, ()))))) (fun X v => s4 (R := R) k X (fun y0 => K (.exit 0) (osh4kx0.enc (((), ()), (y0, ())))) v) (fun _ => rfl) (fun n v => step4 k n K v) (fun n v => rfl)
theorem loops (k : Nat) : LoopsOk (env k) (J k) (L k) (codeOf Try.f65) := by
  intro c an hc han s K r h
  unfold L at h
  by_cases q4 : firstRegion c = 4
  · have h1 := key_eq q4 h
    rw [q4] at hc han
    have e2 : an = ⟨[(1, .asis), (5, .row 2 (.int .i64)), (6, .asis), (9, .asis), (10, .asis), (11, .asis)], [(5, .asis)]⟩ := (Option.some.inj (show some _ = some an from han)).symm
    have e1 : c = (findLoop 4 (codeOf Try.f65)).getD .skip := by rw [hc]; rfl
    cases hd : sh4.dec s with
    | none => rw [hd] at h1; cases h1
    | some v =>
      rw [hd] at h1
      refine ⟨k, ?_⟩
      rw [e1, e2, Shape.dec_enc _ _ _ hd]
      exact (run4 k K k (fl4 v)).trans h1
  have h := not_key q4 h
  cases h
theorem fit (k : Nat) : codeFit (env k) (codeOf Try.f65) = true := by kernel_rfl
theorem lps : (loopsIn (codeOf Try.f65)).map (fun d => findLoop (firstRegion d) (codeOf Try.f65)) = (loopsIn (codeOf Try.f65)).map some := by kernel_rfl
theorem hf : Try.prog.funcs[65]? = some Try.f65 := by kernel_rfl
theorem hb : Try.f65.body = some (codeOf Try.f65) := by kernel_rfl
theorem hn : (Try.f65.name == "runtime.NumGoroutine") = false := by kernel_rfl
theorem hJ (k : Nat) : ∀ C : Ctx, C.P = Try.prog → ∀ r, InlOk C (J k) r := fun C hC r => noInl_ok
theorem sound (k : Nat) : Sound Try.prog 65 (entry k) := func_sound (E := env k) (by kernel_rfl) (by kernel_rfl) (by kernel_rfl) (by kernel_rfl) tbl_nil hf hb hn (fit k) (loops_all lps) (hJ k) (loops k) (eq k)
end impl_lowWinners

namespace impl_LowWinners
def entry (k : Nat) : Entry := ⟨[.ro (.sl 2 (.int .i64)), .ro (.sl 2 (.int .i64))], [.own (.sl 2 (.int .i64)), .own (.int .i64)], fun (a0, (a1, _)) => f k a0 a1⟩
def tbl (k : Nat) : List (Nat × Option Entry) := [(63, some (impl_checkValues.entry k)), (65, some (impl_lowWinners.entry k))]
abbrev R := Res [.own (.sl 2 (.int .i64)), .own (.int .i64)] × Outs [.ro (.sl 2 (.int .i64)), .ro (.sl 2 (.int .i64))]
def env (k : Nat) : Env := ⟨Try.prog, 21, AM.look none (tbl k), AM.look none []⟩
def L (k : Nat) (q : Nat) (s : St) (K : AExit → St → Option R) : Option R := none
def J (k : Nat) : Inl R := noInl
theorem eq (k : Nat) : ∀ a, aexec (env k) (J k) (L k) (codeOf Try.f21) (begSt [.ro (.sl 2 (.int .i64)), .ro (.sl 2 (.int .i64))] a) (finK (env k) Try.f21 [.ro (.sl 2 (.int .i64)), .ro (.sl 2 (.int .i64))] [.own (.sl 2 (.int .i64)), .own (.int .i64)]) = (entry k).fn a := by intro a; kernel_rfl
theorem loops (k : Nat) : LoopsOk (env k) (J k) (L k) (codeOf Try.f21) := by
  intro c an hc han s K r h
  unfold L at h
  cases h
theorem fit (k : Nat) : codeFit (env k) (codeOf Try.f21) = true := by kernel_rfl
theorem lps : (loopsIn (codeOf Try.f21)).map (fun d => findLoop (firstRegion d) (codeOf Try.f21)) = (loopsIn (codeOf Try.f21)).map some := by kernel_rfl
theorem hf : Try.prog.funcs[21]? = some Try.f21 := by kernel_rfl
theorem hb : Try.f21.body = some (codeOf Try.f21) := by kernel_rfl
theorem hn : (Try.f21.name == "runtime.NumGoroutine") = false := by kernel_rfl
theorem hJ (k : Nat) : ∀ C : Ctx, C.P = Try.prog → ∀ r, InlOk C (J k) r := fun C hC r => noInl_ok
theorem sound (k : Nat) : Sound Try.prog 21 (entry k) := func_sound (E := env k) (by kernel_rfl) (by kernel_rfl) (by kernel_rfl) (by kernel_rfl) (tbl_cons (impl_checkValues.sound k) (tbl_cons (impl_lowWinners.sound k) tbl_nil)) hf hb hn (fit k) (loops_all lps) (hJ k) (loops k) (eq k)
end impl_LowWinners

namespace laws_FnExactLowWinners
def entry (k : Nat) : Entry := ⟨[.ro (.sl 2 (.int .i64)), .ro (.sl 2 (.int .i64))], [.own .bool], fun (a0, (a1, _)) => f k a0 a1⟩
def tbl (k : Nat) : List (Nat × Option Entry) := [(13, some (laws_toInt64S.entry k)), (15, some (laws_eqInt64S.entry k)), (16, some (laws_markInt64S.entry k)), (17, some (laws_heldInt64S.entry k)), (20, some (spec_LowWinners.entry k)), (21, some (impl_LowWinners.entry k))]
abbrev R := Res [.own .bool] × Outs [.ro (.sl 2 (.int .i64)), .ro (.sl 2 (.int .i64))]
def env (k : Nat) : Env := ⟨Try.prog, 114, AM.look none (tbl k), AM.look none []⟩
def L (k : Nat) (q : Nat) (s : St) (K : AExit → St → Option R) : Option R := none
def J (k : Nat) : Inl R := noInl
theorem eq (k : Nat) : ∀ a, aexec (env k) (J k) (L k) (codeOf Try.f5) (begSt [.ro (.sl 2 (.int .i64)), .ro (.sl 2 (.int .i64))] a) (finK (env k) Try.f5 [.ro (.sl 2 (.int .i64)), .ro (.sl 2 (.int .i64))] [.own .bool]) = (entry k).fn a := by intro a; kernel_rfl
theorem loops (k : Nat) : LoopsOk (env k) (J k) (L k) (codeOf Try.f5) := by
  intro c an hc han s K r h
  unfold L at h
  cases h
theorem fit (k : Nat) : codeFit (env k) (codeOf Try.f5) = true := by kernel_rfl
theorem lps : (loopsIn (codeOf Try.f5)).map (fun d => findLoop (firstRegion d) (codeOf Try.f5)) = (loopsIn (codeOf Try.f5)).map some := by kernel_rfl
theorem hf : Try.prog.funcs[5]? = some Try.f5 := by kernel_rfl
theorem hb : Try.f5.body = some (codeOf Try.f5) := by kernel_rfl
theorem hn : (Try.f5.name == "runtime.NumGoroutine") = false := by kernel_rfl
theorem hJ (k : Nat) : ∀ C : Ctx, C.P = Try.prog → ∀ r, InlOk C (J k) r := fun C hC r => noInl_ok
theorem sound (k : Nat) : Sound Try.prog 5 (entry k) := func_sound (E := env k) (by kernel_rfl) (by kernel_rfl) (by kernel_rfl) (by kernel_rfl) (tbl_cons (laws_toInt64S.sound k) (tbl_cons (laws_eqInt64S.sound k) (tbl_cons (laws_markInt64S.sound k) (tbl_cons (laws_heldInt64S.sound k) (tbl_cons (spec_LowWinners.sound k) (tbl_cons (impl_LowWinners.sound k) tbl_nil)))))) hf hb hn (fit k) (loops_all lps) (hJ k) (loops k) (eq k)
end laws_FnExactLowWinners
end Go.Sh

/- Each Go function that the law reaches keeps the contract that its Lean function states; conditions: none. -/
import Derived.Test.YtnmfhmmhfhjkiaaA1
import Derived.Test.YtnmfhmmhfhjkiaaSFnShares0
import Derived.Test.YtnmfhmmhfhjkiaaProg
noncomputable section
set_option linter.unusedVariables false
set_option maxRecDepth 100000
namespace Go.Sh
open Go Go.AM Go.Proofs
namespace impl_within
def entry (k : Nat) : Entry := ⟨[.ro (.int .i64), .ro (.int .i64), .ro (.int .i64)], [.own .bool], fun (a0, (a1, (a2, _))) => f k a0 a1 a2⟩
def tbl (k : Nat) : List (Nat × Option Entry) := []
abbrev R := Res [.own .bool] × Outs [.ro (.int .i64), .ro (.int .i64), .ro (.int .i64)]
def env (k : Nat) : Env := ⟨Try.prog, 15, AM.look none (tbl k), AM.look none []⟩
def L (k : Nat) (q : Nat) (s : St) (K : AExit → St → Option R) : Option R := none
def J (k : Nat) : Inl R := noInl
theorem eq (k : Nat) : ∀ a, aexec (env k) (J k) (L k) (codeOf Try.f49) (begSt [.ro (.int .i64), .ro (.int .i64), .ro (.int .i64)] a) (finK (env k) Try.f49 [.ro (.int .i64), .ro (.int .i64), .ro (.int .i64)] [.own .bool]) = (entry k).fn a := by intro a; kernel_rfl
theorem loops (k : Nat) : LoopsOk (env k) (J k) (L k) (codeOf Try.f49) := by
  intro c an hc han s K r h
  unfold L at h
  cases h
theorem fit (k : Nat) : codeFit (env k) (codeOf Try.f49) = true := by kernel_rfl
theorem lps : (loopsIn (codeOf Try.f49)).map (fun d => findLoop (firstRegion d) (codeOf Try.f49)) = (loopsIn (codeOf Try.f49)).map some := by kernel_rfl
theorem hf : Try.prog.funcs[49]? = some Try.f49 := by kernel_rfl
theorem hb : Try.f49.body = some (codeOf Try.f49) := by kernel_rfl
theorem hn : (Try.f49.name == "runtime.NumGoroutine") = false := by kernel_rfl
theorem hJ (k : Nat) : ∀ C : Ctx, C.P = Try.prog → ∀ r, InlOk C (J k) r := fun C hC r => noInl_ok
theorem sound (k : Nat) : Sound Try.prog 49 (entry k) := func_sound (E := env k) (by kernel_rfl) (by kernel_rfl) (by kernel_rfl) (by kernel_rfl) tbl_nil hf hb hn (fit k) (loops_all lps) (hJ k) (loops k) (eq k)
end impl_within

namespace impl_allWithin
def entry (k : Nat) : Entry := ⟨[.ro (.sl 2 (.int .i64)), .ro (.int .i64), .ro (.int .i64)], [.own .bool], fun (a0, (a1, (a2, _))) => f k a0 a1 a2⟩
def tbl (k : Nat) : List (Nat × Option Entry) := [(49, some (impl_within.entry k))]
abbrev R := Res [.own .bool] × Outs [.ro (.sl 2 (.int .i64)), .ro (.int .i64), .ro (.int .i64)]
def env (k : Nat) : Env := ⟨Try.prog, 21, AM.look none (tbl k), AM.look none [(2, some ⟨[(1, .asis), (2, .asis), (9, .asis), (10, .asis), (11, .asis)], [(6, .asis)]⟩)]⟩
def sh2 : Shape := ⟨[(1, .val (.int .i64)), (2, .val (.int .i64)), (9, .val (.sl 2 (.int .i64))), (10, .val (.int .i64)), (11, .val (.int .i64))], [], 0, []⟩
def osh2kx0 : Shape := ⟨[(6, .undef)], [], 0, []⟩
def osh2kr : Shape := ⟨[(6, .val .bool)], [], 0, []⟩
def un2 : Int × Int × (List Int) × Int × Int → sh2.V := fun (x1, x2, x9, x10, x11) => ((x1, (x2, (x9, (x10, (x11, ()))))), ())
def fl2 : sh2.V → Int × Int × (List Int) × Int × Int := fun ((x1, (x2, (x9, (x10, (x11, _))))), _) => (x1, x2, x9, x10, x11)
def L (k : Nat) (q : Nat) (s : St) (K : AExit → St → Option R) : Option R := bif Nat.beq q 2 then (match sh2.dec s with | some v => l2 (R := R) k k (fl2 v) (fun (_ : Unit) => K (.exit 0) (osh2kx0.enc (((), ()), ()))) (fun x6 => K .ret (osh2kr.enc ((x6, ()), ()))) | none => none) else (none)
def J (k : Nat) : Inl R := noInl
theorem step2 (k n : Nat) (K : AExit → St → Option R) : ∀ v, aloop (aexec (env k) (J k) (L k) ((findLoop 2 (codeOf Try.f50)).getD .skip)) (normSt [(1, .asis), (2, .asis), (9, .asis), (10, .asis), (11, .asis)]) (normSt [(6, .asis)]) K (n + 1) (sh2.enc (un2 v)) = s2 (R := R) k (fun w => aloop (aexec (env k) (J k) (L k) ((findLoop 2 (codeOf Try.f50)).getD .skip)) (normSt [(1, .asis), (2, .asis), (9, .asis), (10, .asis), (11, .asis)]) (normSt [(6, .asis)]) K n (sh2.enc (un2 w))) (fun (_ : Unit) => K (.exit 0) (osh2kx0.enc (((), ()), ()))) (fun x6 => K .ret (osh2kr.enc ((x6, ()), ()))) v := by intro v; kernel_rfl
theorem eq (k : Nat) : ∀ a, aexec (env k) (J k) (L k) (codeOf Try.f50) (begSt [.ro (.sl 2 (.int .i64)), .ro (.int .i64), .ro (.int .i64)] a) (finK (env k) Try.f50 [.ro (.sl 2 (.int .i64)), .ro (.int .i64), .ro (.int .i64)] [.own .bool]) = (entry k).fn a := by intro a; kernel_rfl
theorem run2 (k : Nat) (K : AExit → St → Option R) : ∀ n v, aloop (aexec (env k) (J k) (L k) ((findLoop 2 (codeOf Try.f50)).getD .skip)) (normSt [(1, .asis), (2, .asis), (9, .asis), (10, .asis), (11, .asis)]) (normSt [(6, .asis)]) K n (sh2.enc (un2 v)) = l2 (R := R) k n v (fun (_ : Unit) => K (.exit 0) (osh2kx0.enc (((), ()), ()))) (fun x6 => K .ret (osh2kr.enc ((x6, ()), ()))) := loop_eq (fun n v => aloop (aexec (env k) (J k) (L k) ((findLoop 2 (codeOf Try.f50)).getD .skip)) (normSt [(1, .asis), (2, .asis), (9, .asis), (10, .asis), (11, .asis)]) (normSt [(6, .asis)]) K n (sh2.enc (un2 v))) (fun n v => l2 (R := R) k n v (fun (_ : Unit) => K (.exit 0) (osh2kx0.enc (((), ()), ()))) (fun x6 => K .ret (osh2kr.enc ((x6, ()), ())))) (fun X v => s2 (R := R) k X (fun (_ : Unit) => K (.exit 0) (osh2kx0.enc (((), ()), ()))) (fun x6 => K .ret (osh2kr.enc ((x6, ()), ()))) v) (fun _ => rfl) (fun n v => step2 k n K v) (fun n v => rfl)
theorem loops (k : Nat) : LoopsOk (env k) (J k) (L k) (codeOf Try.f50) := by
  intro c an hc han s K r h
  unfold L at h
  by_cases q2 : firstRegion c = 2
  · have h1 := key_eq q2 h
    rw [q2] at hc han
    have e2 : an = ⟨[(1, .asis), (2, .asis), (9, .asis), (10, .asis), (11, .asis)], [(6, .asis)]⟩ := (Option.some.inj (show some _ = some an from han)).symm
    have e1 : c = (findLoop 2 (codeOf Try.f50)).getD .skip := by rw [hc]; rfl
    cases hd : sh2.dec s with
    | none => rw [hd] at h1; cases h1
    | some v =>
      rw [hd] at h1
      refine ⟨k, ?_⟩
      rw [e1, e2, Shape.dec_enc _ _ _ hd]
      exact (run2 k K k (fl2 v)).trans h1
  have h := not_key q2 h
  cases h
theorem fit (k : Nat) : codeFit (env k) (codeOf Try.f50) = true := by kernel_rfl
theorem lps : (loopsIn (codeOf Try.f50)).map (fun d => findLoop (firstRegion d) (codeOf Try.f50)) = (loopsIn (codeOf Try.f50)).map some := by kernel_rfl
theorem hf : Try.prog.funcs[50]? = some Try.f50 := by kernel_rfl
theorem hb : Try.f50.body = some (codeOf Try.f50) := by kernel_rfl
theorem hn : (Try.f50.name == "runtime.NumGoroutine") = false := by kernel_rfl
theorem hJ (k : Nat) : ∀ C : Ctx, C.P = Try.prog → ∀ r, InlOk C (J k) r := fun C hC r => noInl_ok
theorem sound (k : Nat) : Sound Try.prog 50 (entry k) := func_sound (E := env k) (by kernel_rfl) (by kernel_rfl) (by kernel_rfl) (by kernel_rfl) (tbl_cons (impl_within.sound k) tbl_nil) hf hb hn (fit k) (loops_all lps) (hJ k) (loops k) (eq k)
end impl_allWithin

namespace impl_ArePayments
def entry (k : Nat) : Entry := ⟨[.ro (.sl 2 (.int .i64)), .ro (.sl 4 .bool)], [.own .bool], fun (a0, (a1, _)) => f k a0 a1⟩
def tbl (k : Nat) : List (Nat × Option Entry) := [(49, some (impl_within.entry k)), (50, some (impl_allWithin.entry k))]
abbrev R := Res [.own .bool] × Outs [.ro (.sl 2 (.int .i64)), .ro (.sl 4 .bool)]
def env (k : Nat) : Env := ⟨Try.prog, 40, AM.look none (tbl k), AM.look none [(4, some ⟨[(1, .asis), (23, .asis), (24, .asis), (25, .asis)], [(4, .asis)]⟩)]⟩
def sh4 : Shape := ⟨[(1, .val (.sl 4 .bool)), (23, .val (.sl 2 (.int .i64))), (24, .val (.int .i64)), (25, .val (.int .i64))], [], 0, []⟩
def osh4kx0 : Shape := ⟨[(4, .undef)], [], 0, []⟩
def osh4kr : Shape := ⟨[(4, .val .bool)], [], 0, []⟩
def un4 : (List Bool) × (List Int) × Int × Int → sh4.V := fun (x1, x23, x24, x25) => ((x1, (x23, (x24, (x25, ())))), ())
def fl4 : sh4.V → (List Bool) × (List Int) × Int × Int := fun ((x1, (x23, (x24, (x25, _)))), _) => (x1, x23, x24, x25)
def L (k : Nat) (q : Nat) (s : St) (K : AExit → St → Option R) : Option R := bif Nat.beq q 4 then (match sh4.dec s with | some v => l4 (R := R) k k (fl4 v) (fun (_ : Unit) => K (.exit 0) (osh4kx0.enc (((), ()), ()))) (fun x4 => K .ret (osh4kr.enc ((x4, ()), ()))) | none => none) else (none)
def J (k : Nat) : Inl R := noInl
theorem step4 (k n : Nat) (K : AExit → St → Option R) : ∀ v, aloop (aexec (env k) (J k) (L k) ((findLoop 4 (codeOf Try.f16)).getD .skip)) (normSt [(1, .asis), (23, .asis), (24, .asis), (25, .asis)]) (normSt [(4, .asis)]) K (n + 1) (sh4.enc (un4 v)) = s4 (R := R) k (fun w => aloop (aexec (env k) (J k) (L k) ((findLoop 4 (codeOf Try.f16)).getD .skip)) (normSt [(1, .asis), (23, .asis), (24, .asis), (25, .asis)]) (normSt [(4, .asis)]) K n (sh4.enc (un4 w))) (fun (_ : Unit) => K (.exit 0) (osh4kx0.enc (((), ()), ()))) (fun x4 => K .ret (osh4kr.enc ((x4, ()), ()))) v := by intro v; kernel_rfl
theorem eq (k : Nat) : ∀ a, aexec (env k) (J k) (L k) (codeOf Try.f16) (begSt [.ro (.sl 2 (.int .i64)), .ro (.sl 4 .bool)] a) (finK (env k) Try.f16 [.ro (.sl 2 (.int .i64)), .ro (.sl 4 .bool)] [.own .bool]) = (entry k).fn a := by intro a; kernel_rfl
theorem run4 (k : Nat) (K : AExit → St → Option R) : ∀ n v, aloop (aexec (env k) (J k) (L k) ((findLoop 4 (codeOf Try.f16)).getD .skip)) (normSt [(1, .asis), (23, .asis), (24, .asis), (25, .asis)]) (normSt [(4, .asis)]) K n (sh4.enc (un4 v)) = l4 (R := R) k n v (fun (_ : Unit) => K (.exit 0) (osh4kx0.enc (((), ()), ()))) (fun x4 => K .ret (osh4kr.enc ((x4, ()), ()))) := loop_eq (fun n v => aloop (aexec (env k) (J k) (L k) ((findLoop 4 (codeOf Try.f16)).getD .skip)) (normSt [(1, .asis), (23, .asis), (24, .asis), (25, .asis)]) (normSt [(4, .asis)]) K n (sh4.enc (un4 v))) (fun n v => l4 (R := R) k n v (fun (_ : Unit) => K (.exit 0) (osh4kx0.enc (((), ()), ()))) (fun x4 => K .ret (osh4kr.enc ((x4, ()), ())))) (fun X v => s4 (R := R) k X (fun (_ : Unit) => K (.exit 0) (osh4kx0.enc (((), ()), ()))) (fun x4 => K .ret (osh4kr.enc ((x4, ()), ()))) v) (fun _ => rfl) (fun n v => step4 k n K v) (fun n v => rfl)
theorem loops (k : Nat) : LoopsOk (env k) (J k) (L k) (codeOf Try.f16) := by
  intro c an hc han s K r h
  unfold L at h
  by_cases q4 : firstRegion c = 4
  · have h1 := key_eq q4 h
    rw [q4] at hc han
    have e2 : an = ⟨[(1, .asis), (23, .asis), (24, .asis), (25, .asis)], [(4, .asis)]⟩ := (Option.some.inj (show some _ = some an from han)).symm
    have e1 : c = (findLoop 4 (codeOf Try.f16)).getD .skip := by rw [hc]; rfl
    cases hd : sh4.dec s with
    | none => rw [hd] at h1; cases h1
    | some v =>
      rw [hd] at h1
      refine ⟨k, ?_⟩
      rw [e1, e2, Shape.dec_enc _ _ _ hd]
      exact (run4 k K k (fl4 v)).trans h1
  have h := not_key q4 h
  cases h
theorem fit (k : Nat) : codeFit (env k) (codeOf Try.f16) = true := by kernel_rfl
theorem lps : (loopsIn (codeOf Try.f16)).map (fun d => findLoop (firstRegion d) (codeOf Try.f16)) = (loopsIn (codeOf Try.f16)).map some := by kernel_rfl
theorem hf : Try.prog.funcs[16]? = some Try.f16 := by kernel_rfl
theorem hb : Try.f16.body = some (codeOf Try.f16) := by kernel_rfl
theorem hn : (Try.f16.name == "runtime.NumGoroutine") = false := by kernel_rfl
theorem hJ (k : Nat) : ∀ C : Ctx, C.P = Try.prog → ∀ r, InlOk C (J k) r := fun C hC r => noInl_ok
theorem sound (k : Nat) : Sound Try.prog 16 (entry k) := func_sound (E := env k) (by kernel_rfl) (by kernel_rfl) (by kernel_rfl) (by kernel_rfl) (tbl_cons (impl_within.sound k) (tbl_cons (impl_allWithin.sound k) tbl_nil)) hf hb hn (fit k) (loops_all lps) (hJ k) (loops k) (eq k)
end impl_ArePayments

namespace slices_Max_int64_int64
def entry (k : Nat) : Entry := ⟨[.ro (.sl 2 (.int .i64))], [.own (.int .i64)], fun (a0, _) => f k a0⟩
def tbl (k : Nat) : List (Nat × Option Entry) := []
abbrev R := Res [.own (.int .i64)] × Outs [.ro (.sl 2 (.int .i64))]
def env (k : Nat) : Env := ⟨Try.prog, 25, AM.look none (tbl k), AM.look none [(5, some ⟨[(0, .asis), (3, .asis), (4, .asis)], [(3, .asis)]⟩)]⟩
def sh5 : Shape := ⟨[(0, .val (.sl 2 (.int .i64))), (3, .val (.int .i64)), (4, .val (.int .i64))], [], 0, []⟩
def osh5kx0 : Shape := ⟨[(3, .val (.int .i64))], [], 0, []⟩
def un5 : (List Int) × Int × Int → sh5.V := fun (x0, x3, x4) => ((x0, (x3, (x4, ()))), ())
def fl5 : sh5.V → (List Int) × Int × Int := fun ((x0, (x3, (x4, _))), _) => (x0, x3, x4)
def L (k : Nat) (q : Nat) (s : St) (K : AExit → St → Option R) : Option R := bif Nat.beq q 5 then (match sh5.dec s with | some v => l5 (R := R) k k (fl5 v) (fun x3 => K (.exit 0) (osh5kx0.enc ((x3, ()), ()))) | none => none) else (none)
def J (k : Nat) : Inl R := noInl
theorem step5 (k n : Nat) (K : AExit → St → Option R) : ∀ v, aloop (aexec (env k) (J k) (L k) ((findLoop 5 (codeOf Try.f66)).getD .skip)) (normSt [(0, .asis), (3, .asis), (4, .asis)]) (normSt [(3, .asis)]) K (n + 1) (sh5.enc (un5 v)) = s5 (R := R) k (fun w => aloop (aexec (env k) (J k) (L k) ((findLoop 5 (codeOf Try.f66)).getD .skip)) (normSt [(0, .asis), (3, .asis), (4, .asis)]) (normSt [(3, .asis)]) K n (sh5.enc (un5 w))) (fun x3 => K (.exit 0) (osh5kx0.enc ((x3, ()), ()))) v := by intro v; kernel_rfl
theorem eq (k : Nat) : ∀ a, aexec (env k) (J k) (L k) (codeOf Try.f66) (begSt [.ro (.sl 2 (.int .i64))] a) (finK (env k) Try.f66 [.ro (.sl 2 (.int .i64))] [.own (.int .i64)]) = (entry k).fn a := by intro a; kernel_rfl
theorem run5 (k : Nat) (K : AExit → St → Option R) : ∀ n v, aloop (aexec (env k) (J k) (L k) ((findLoop 5 (codeOf Try.f66)).getD .skip)) (normSt [(0, .asis), (3, .asis), (4, .asis)]) (normSt [(3, .asis)]) K n (sh5.enc (un5 v)) = l5 (R := R) k n v (fun x3 => K (.exit 0) (osh5kx0.enc ((x3, ()), ()))) := loop_eq (fun n v => aloop (aexec (env k) (J k) (L k) ((findLoop 5 (codeOf Try.f66)).getD .skip)) (normSt [(0, .asis), (3, .asis), (4, .asis)]) (normSt [(3, .asis)]) K n (sh5.enc (un5 v))) (fun n v => l5 (R := R) k n v (fun x3 => K (.exit 0) (osh5kx0.enc ((x3, ()), ())))) (fun X v => s5 (R := R) k X (fun x3 => K (.exit 0) (osh5kx0.enc ((x3, ()), ()))) v) (fun _ => rfl) (fun n v => step5 k n K v) (fun n v => rfl)
theorem loops (k : Nat) : LoopsOk (env k) (J k) (L k) (codeOf Try.f66) := by
  intro c an hc han s K r h
  unfold L at h
  by_cases q5 : firstRegion c = 5
  · have h1 := key_eq q5 h
    rw [q5] at hc han
    have e2 : an = ⟨[(0, .asis), (3, .asis), (4, .asis)], [(3, .asis)]⟩ := (Option.some.inj (show some _ = some an from han)).symm
    have e1 : c = (findLoop 5 (codeOf Try.f66)).getD .skip := by rw [hc]; rfl
    cases hd : sh5.dec s with
    | none => rw [hd] at h1; cases h1
    | some v =>
      rw [hd] at h1
      refine ⟨k, ?_⟩
      rw [e1, e2, Shape.dec_enc _ _ _ hd]
      exact (run5 k K k (fl5 v)).trans h1
  have h := not_key q5 h
  cases h
theorem fit (k : Nat) : codeFit (env k) (codeOf Try.f66) = true := by kernel_rfl
theorem lps : (loopsIn (codeOf Try.f66)).map (fun d => findLoop (firstRegion d) (codeOf Try.f66)) = (loopsIn (codeOf Try.f66)).map some := by kernel_rfl
theorem hf : Try.prog.funcs[66]? = some Try.f66 := by kernel_rfl
theorem hb : Try.f66.body = some (codeOf Try.f66) := by kernel_rfl
theorem hn : (Try.f66.name == "runtime.NumGoroutine") = false := by kernel_rfl
theorem hJ (k : Nat) : ∀ C : Ctx, C.P = Try.prog → ∀ r, InlOk C (J k) r := fun C hC r => noInl_ok
theorem sound (k : Nat) : Sound Try.prog 66 (entry k) := func_sound (E := env k) (by kernel_rfl) (by kernel_rfl) (by kernel_rfl) (by kernel_rfl) tbl_nil hf hb hn (fit k) (loops_all lps) (hJ k) (loops k) (eq k)
end slices_Max_int64_int64

namespace slices_Index_int64_int64
def entry (k : Nat) : Entry := ⟨[.ro (.sl 2 (.int .i64)), .ro (.int .i64)], [.own (.int .i64)], fun (a0, (a1, _)) => f k a0 a1⟩
def tbl (k : Nat) : List (Nat × Option Entry) := []
abbrev R := Res [.own (.int .i64)] × Outs [.ro (.sl 2 (.int .i64)), .ro (.int .i64)]
def env (k : Nat) : Env := ⟨Try.prog, 19, AM.look none (tbl k), AM.look none [(2, some ⟨[(0, .asis), (1, .asis), (7, .asis), (8, .asis)], [(4, .asis)]⟩)]⟩
def sh2 : Shape := ⟨[(0, .val (.sl 2 (.int .i64))), (1, .val (.int .i64)), (7, .val (.int .i64)), (8, .val (.int .i64))], [], 0, []⟩
def osh2kx0 : Shape := ⟨[(4, .undef)], [], 0, []⟩
def osh2kr : Shape := ⟨[(4, .val (.int .i64))], [], 0, []⟩
def un2 : (List Int) × Int × Int × Int → sh2.V := fun (x0, x1, x7, x8) => ((x0, (x1, (x7, (x8, ())))), ())
def fl2 : sh2.V → (List Int) × Int × Int × Int := fun ((x0, (x1, (x7, (x8, _)))), _) => (x0, x1, x7, x8)
def L (k : Nat) (q : Nat) (s : St) (K : AExit → St → Option R) : Option R := bif Nat.beq q 2 then (match sh2.dec s with | some v => l2 (R := R) k k (fl2 v) (fun (_ : Unit) => K (.exit 0) (osh2kx0.enc (((), ()), ()))) (fun x4 => K .ret (osh2kr.enc ((x4, ()), ()))) | none => none) else (none)
def J (k : Nat) : Inl R := noInl
theorem step2 (k n : Nat) (K : AExit → St → Option R) : ∀ v, aloop (aexec (env k) (J k) (L k) ((findLoop 2 (codeOf Try.f67)).getD .skip)) (normSt [(0, .asis), (1, .asis), (7, .asis), (8, .asis)]) (normSt [(4, .asis)]) K (n + 1) (sh2.enc (un2 v)) = s2 (R := R) k (fun w => aloop (aexec (env k) (J k) (L k) ((findLoop 2 (codeOf Try.f67)).getD .skip)) (normSt [(0, .asis), (1, .asis), (7, .asis), (8, .asis)]) (normSt [(4, .asis)]) K n (sh2.enc (un2 w))) (fun (_ : Unit) => K (.exit 0) (osh2kx0.enc (((), ()), ()))) (fun x4 => K .ret (osh2kr.enc ((x4, ()), ()))) v := by intro v; kernel_rfl
theorem eq (k : Nat) : ∀ a, aexec (env k) (J k) (L k) (codeOf Try.f67) (begSt [.ro (.sl 2 (.int .i64)), .ro (.int .i64)] a) (finK (env k) Try.f67 [.ro (.sl 2 (.int .i64)), .ro (.int .i64)] [.own (.int .i64)]) = (entry k).fn a := by intro a; kernel_rfl
theorem run2 (k : Nat) (K : AExit → St → Option R) : ∀ n v, aloop (aexec (env k) (J k) (L k) ((findLoop 2 (codeOf Try.f67)).getD .skip)) (normSt [(0, .asis), (1, .asis), (7, .asis), (8, .asis)]) (normSt [(4, .asis)]) K n (sh2.enc (un2 v)) = l2 (R := R) k n v (fun (_ : Unit) => K (.exit 0) (osh2kx0.enc (((), ()), ()))) (fun x4 => K .ret (osh2kr.enc ((x4, ()), ()))) := loop_eq (fun n v => aloop (aexec (env k) (J k) (L k) ((findLoop 2 (codeOf Try.f67)).getD .skip)) (normSt [(0, .asis), (1, .asis), (7, .asis), (8, .asis)]) (normSt [(4, .asis)]) K n (sh2.enc (un2 v))) (fun n v => l2 (R := R) k n v (fun (_ : Unit) => K (.exit 0) (osh2kx0.enc (((), ()), ()))) (fun x4 => K .ret (osh2kr.enc ((x4, ()), ())))) (fun X v => s2 (R := R) k X (fun (_ : Unit) => K (.exit 0) (osh2kx0.enc (((), ()), ()))) (fun x4 => K .ret (osh2kr.enc ((x4, ()), ()))) v) (fun _ => rfl) (fun n v => step2 k n K v) (fun n v => rfl)
theorem loops (k : Nat) : LoopsOk (env k) (J k) (L k) (codeOf Try.f67) := by
  intro c an hc han s K r h
  unfold L at h
  by_cases q2 : firstRegion c = 2
  · have h1 := key_eq q2 h
    rw [q2] at hc han
    have e2 : an = ⟨[(0, .asis), (1, .asis), (7, .asis), (8, .asis)], [(4, .asis)]⟩ := (Option.some.inj (show some _ = some an from han)).symm
    have e1 : c = (findLoop 2 (codeOf Try.f67)).getD .skip := by rw [hc]; rfl
    cases hd : sh2.dec s with
    | none => rw [hd] at h1; cases h1
    | some v =>
      rw [hd] at h1
      refine ⟨k, ?_⟩
      rw [e1, e2, Shape.dec_enc _ _ _ hd]
      exact (run2 k K k (fl2 v)).trans h1
  have h := not_key q2 h
  cases h
theorem fit (k : Nat) : codeFit (env k) (codeOf Try.f67) = true := by kernel_rfl
theorem lps : (loopsIn (codeOf Try.f67)).map (fun d => findLoop (firstRegion d) (codeOf Try.f67)) = (loopsIn (codeOf Try.f67)).map some := by kernel_rfl
theorem hf : Try.prog.funcs[67]? = some Try.f67 := by kernel_rfl
theorem hb : Try.f67.body = some (codeOf Try.f67) := by kernel_rfl
theorem hn : (Try.f67.name == "runtime.NumGoroutine") = false := by kernel_rfl
theorem hJ (k : Nat) : ∀ C : Ctx, C.P = Try.prog → ∀ r, InlOk C (J k) r := fun C hC r => noInl_ok
theorem sound (k : Nat) : Sound Try.prog 67 (entry k) := func_sound (E := env k) (by kernel_rfl) (by kernel_rfl) (by kernel_rfl) (by kernel_rfl) tbl_nil hf hb hn (fit k) (loops_all lps) (hJ k) (loops k) (eq k)
end slices_Index_int64_int64

namespace impl_uncalledOf
def entry (k : Nat) : Entry := ⟨[.ro (.sl 2 (.int .i64))], [.own (.int .i64), .own (.int .i64)], fun (a0, _) => f k a0⟩
def tbl (k : Nat) : List (Nat × Option Entry) := [(66, some (slices_Max_int64_int64.entry k)), (67, some (slices_Index_int64_int64.entry k))]
abbrev R := Res [.own (.int .i64), .own (.int .i64)] × Outs [.ro (.sl 2 (.int .i64))]
def env (k : Nat) : Env := ⟨Try.prog, 35, AM.look none (tbl k), AM.look none [(5, some ⟨[(4, .asis), (5, .asis), (6, .asis), (14, .asis), (15, .asis), (16, .asis)], [(4, .asis), (5, .asis), (6, .asis)]⟩)]⟩
def sh5 : Shape := ⟨[(4, .val (.int .i64)), (5, .val (.int .i64)), (6, .val (.int .i64)), (14, .val (.sl 2 (.int .i64))), (15, .val (.int .i64)), (16, .val (.int .i64))], [], 0, []⟩
def osh5kx0 : Shape := ⟨[(4, .val (.int .i64)), (5, .val (.int .i64)), (6, .val (.int .i64))], [], 0, []⟩
def un5 : Int × Int × Int × (List Int) × Int × Int → sh5.V := fun (x4, x5, x6, x14, x15, x16) => ((x4, (x5, (x6, (x14, (x15, (x16, ())))))), ())
def fl5 : sh5.V → Int × Int × Int × (List Int) × Int × Int := fun ((x4, (x5, (x6, (x14, (x15, (x16, _)))))), _) => (x4, x5, x6, x14, x15, x16)
def L (k : Nat) (q : Nat) (s : St) (K : AExit → St → Option R) : Option R := bif Nat.beq q 5 then (match sh5.dec s with | some v => l5 (R := R) k k (fl5 v) (fun (x4, x5, x6) => K (.exit 0) (osh5kx0.enc ((x4, (x5, (x6, ()))), ()))) | none => none) else (none)
def J (k : Nat) : Inl R := noInl
theorem step5 (k n : Nat) (K : AExit → St → Option R) : ∀ v, aloop (aexec (env k) (J k) (L k) ((findLoop 5 (codeOf Try.f55)).getD .skip)) (normSt [(4, .asis), (5, .asis), (6, .asis), (14, .asis), (15, .asis), (16, .asis)]) (normSt [(4, .asis), (5, .asis), (6, .asis)]) K (n + 1) (sh5.enc (un5 v)) = s5 (R := R) k (fun w => aloop (aexec (env k) (J k) (L k) ((findLoop 5 (codeOf Try.f55)).getD .skip)) (normSt [(4, .asis), (5, .asis), (6, .asis), (14, .asis), (15, .asis), (16, .asis)]) (normSt [(4, .asis), (5, .asis), (6, .asis)]) K n (sh5.enc (un5 w))) (fun (x4, x5, x6) => K (.exit 0) (osh5kx0.enc ((x4, (x5, (x6, ()))), ()))) v := by intro v; kernel_rfl
theorem eq (k : Nat) : ∀ a, aexec (env k) (J k) (L k) (codeOf Try.f55) (begSt [.ro (.sl 2 (.int .i64))] a) (finK (env k) Try.f55 [.ro (.sl 2 (.int .i64))] [.own (.int .i64), .own (.int .i64)]) = (entry k).fn a := by intro a; kernel_rfl
theorem run5 (k : Nat) (K : AExit → St → Option R) : ∀ n v, aloop (aexec (env k) (J k) (L k) ((findLoop 5 (codeOf Try.f55)).getD .skip)) (normSt [(4, .asis), (5, .asis), (6, .asis), (14, .asis), (15, .asis), (16, .asis)]) (normSt [(4, .asis), (5, .asis), (6, .asis)]) K n (sh5.enc (un5 v)) = l5 (R := R) k n v (fun (x4, x5, x6) => K (.exit 0) (osh5kx0.enc ((x4, (x5, (x6, ()))), ()))) := loop_eq (fun n v => aloop (aexec (env k) (J k) (L k) ((findLoop 5 (codeOf Try.f55)).getD .skip)) (normSt [(4, .asis), (5, .asis), (6, .asis), (14, .asis), (15, .asis), (16, .asis)]) (normSt [(4, .asis), (5, .asis), (6, .asis)]) K n (sh5.enc (un5 v))) (fun n v => l5 (R := R) k n v (fun (x4, x5, x6) => K (.exit 0) (osh5kx0.enc ((x4, (x5, (x6, ()))), ())))) (fun X v => s5 (R := R) k X (fun (x4, x5, x6) => K (.exit 0) (osh5kx0.enc ((x4, (x5, (x6, ()))), ()))) v) (fun _ => rfl) (fun n v => step5 k n K v) (fun n v => rfl)
theorem loops (k : Nat) : LoopsOk (env k) (J k) (L k) (codeOf Try.f55) := by
  intro c an hc han s K r h
  unfold L at h
  by_cases q5 : firstRegion c = 5
  · have h1 := key_eq q5 h
    rw [q5] at hc han
    have e2 : an = ⟨[(4, .asis), (5, .asis), (6, .asis), (14, .asis), (15, .asis), (16, .asis)], [(4, .asis), (5, .asis), (6, .asis)]⟩ := (Option.some.inj (show some _ = some an from han)).symm
    have e1 : c = (findLoop 5 (codeOf Try.f55)).getD .skip := by rw [hc]; rfl
    cases hd : sh5.dec s with
    | none => rw [hd] at h1; cases h1
    | some v =>
      rw [hd] at h1
      refine ⟨k, ?_⟩
      rw [e1, e2, Shape.dec_enc _ _ _ hd]
      exact (run5 k K k (fl5 v)).trans h1
  have h := not_key q5 h
  cases h
theorem fit (k : Nat) : codeFit (env k) (codeOf Try.f55) = true := by kernel_rfl
theorem lps : (loopsIn (codeOf Try.f55)).map (fun d => findLoop (firstRegion d) (codeOf Try.f55)) = (loopsIn (codeOf Try.f55)).map some := by kernel_rfl
theorem hf : Try.prog.funcs[55]? = some Try.f55 := by kernel_rfl
theorem hb : Try.f55.body = some (codeOf Try.f55) := by kernel_rfl
theorem hn : (Try.f55.name == "runtime.NumGoroutine") = false := by kernel_rfl
theorem hJ (k : Nat) : ∀ C : Ctx, C.P = Try.prog → ∀ r, InlOk C (J k) r := fun C hC r => noInl_ok
theorem sound (k : Nat) : Sound Try.prog 55 (entry k) := func_sound (E := env k) (by kernel_rfl) (by kernel_rfl) (by kernel_rfl) (by kernel_rfl) (tbl_cons (slices_Max_int64_int64.sound k) (tbl_cons (slices_Index_int64_int64.sound k) tbl_nil)) hf hb hn (fit k) (loops_all lps) (hJ k) (loops k) (eq k)
end impl_uncalledOf

namespace impl_UncalledOf
def entry (k : Nat) : Entry := ⟨[.ro (.sl 2 (.int .i64)), .ro (.sl 4 .bool)], [.own (.int .i64), .own (.int .i64), .own (.int .i64)], fun (a0, (a1, _)) => f k a0 a1⟩
def tbl (k : Nat) : List (Nat × Option Entry) := [(16, some (impl_ArePayments.entry k)), (55, some (impl_uncalledOf.entry k))]
abbrev R := Res [.own (.int .i64), .own (.int .i64), .own (.int .i64)] × Outs [.ro (.sl 2 (.int .i64)), .ro (.sl 4 .bool)]
def env (k : Nat) : Env := ⟨Try.prog, 20, AM.look none (tbl k), AM.look none []⟩
def L (k : Nat) (q : Nat) (s : St) (K : AExit → St → Option R) : Option R := none
def J (k : Nat) : Inl R := noInl
theorem eq (k : Nat) : ∀ a, aexec (env k) (J k) (L k) (codeOf Try.f24) (begSt [.ro (.sl 2 (.int .i64)), .ro (.sl 4 .bool)] a) (finK (env k) Try.f24 [.ro (.sl 2 (.int .i64)), .ro (.sl 4 .bool)] [.own (.int .i64), .own (.int .i64), .own (.int .i64)]) = (entry k).fn a := by intro a; kernel_rfl
theorem loops (k : Nat) : LoopsOk (env k) (J k) (L k) (codeOf Try.f24) := by
  intro c an hc han s K r h
  unfold L at h
  cases h
theorem fit (k : Nat) : codeFit (env k) (codeOf Try.f24) = true := by kernel_rfl
theorem lps : (loopsIn (codeOf Try.f24)).map (fun d => findLoop (firstRegion d) (codeOf Try.f24)) = (loopsIn (codeOf Try.f24)).map some := by kernel_rfl
theorem hf : Try.prog.funcs[24]? = some Try.f24 := by kernel_rfl
theorem hb : Try.f24.body = some (codeOf Try.f24) := by kernel_rfl
theorem hn : (Try.f24.name == "runtime.NumGoroutine") = false := by kernel_rfl
theorem hJ (k : Nat) : ∀ C : Ctx, C.P = Try.prog → ∀ r, InlOk C (J k) r := fun C hC r => noInl_ok
theorem sound (k : Nat) : Sound Try.prog 24 (entry k) := func_sound (E := env k) (by kernel_rfl) (by kernel_rfl) (by kernel_rfl) (by kernel_rfl) (tbl_cons (impl_ArePayments.sound k) (tbl_cons (impl_uncalledOf.sound k) tbl_nil)) hf hb hn (fit k) (loops_all lps) (hJ k) (loops k) (eq k)
end impl_UncalledOf

namespace spec_l01In
def entry (k : Nat) : Entry := ⟨[.ro (.int .i64), .ro (.int .i64), .ro (.int .i64)], [.own .bool], fun (a0, (a1, (a2, _))) => f k a0 a1 a2⟩
def tbl (k : Nat) : List (Nat × Option Entry) := []
abbrev R := Res [.own .bool] × Outs [.ro (.int .i64), .ro (.int .i64), .ro (.int .i64)]
def env (k : Nat) : Env := ⟨Try.prog, 15, AM.look none (tbl k), AM.look none []⟩
def L (k : Nat) (q : Nat) (s : St) (K : AExit → St → Option R) : Option R := none
def J (k : Nat) : Inl R := noInl
theorem eq (k : Nat) : ∀ a, aexec (env k) (J k) (L k) (codeOf Try.f47) (begSt [.ro (.int .i64), .ro (.int .i64), .ro (.int .i64)] a) (finK (env k) Try.f47 [.ro (.int .i64), .ro (.int .i64), .ro (.int .i64)] [.own .bool]) = (entry k).fn a := by intro a; kernel_rfl
theorem loops (k : Nat) : LoopsOk (env k) (J k) (L k) (codeOf Try.f47) := by
  intro c an hc han s K r h
  unfold L at h
  cases h
theorem fit (k : Nat) : codeFit (env k) (codeOf Try.f47) = true := by kernel_rfl
theorem lps : (loopsIn (codeOf Try.f47)).map (fun d => findLoop (firstRegion d) (codeOf Try.f47)) = (loopsIn (codeOf Try.f47)).map some := by kernel_rfl
theorem hf : Try.prog.funcs[47]? = some Try.f47 := by kernel_rfl
theorem hb : Try.f47.body = some (codeOf Try.f47) := by kernel_rfl
theorem hn : (Try.f47.name == "runtime.NumGoroutine") = false := by kernel_rfl
theorem hJ (k : Nat) : ∀ C : Ctx, C.P = Try.prog → ∀ r, InlOk C (J k) r := fun C hC r => noInl_ok
theorem sound (k : Nat) : Sound Try.prog 47 (entry k) := func_sound (E := env k) (by kernel_rfl) (by kernel_rfl) (by kernel_rfl) (by kernel_rfl) tbl_nil hf hb hn (fit k) (loops_all lps) (hJ k) (loops k) (eq k)
end spec_l01In

namespace spec_l10Chips
def entry (k : Nat) : Entry := ⟨[.ro (.sl 2 (.int .i64)), .ro (.int .i64)], [.own .bool], fun (a0, (a1, _)) => f k a0 a1⟩
def tbl (k : Nat) : List (Nat × Option Entry) := [(47, some (spec_l01In.entry k))]
abbrev R := Res [.own .bool] × Outs [.ro (.sl 2 (.int .i64)), .ro (.int .i64)]
def env (k : Nat) : Env := ⟨Try.prog, 22, AM.look none (tbl k), AM.look none [(2, some ⟨[(0, .asis), (1, .asis), (5, .asis)], [(0, .asis), (1, .asis), (4, .asis)]⟩)]⟩
def sh2 : Shape := ⟨[(0, .val (.sl 2 (.int .i64))), (1, .val (.int .i64)), (5, .val (.int .i64))], [], 0, []⟩
def osh2kx0 : Shape := ⟨[(0, .val (.sl 2 (.int .i64))), (1, .val (.int .i64)), (4, .undef)], [], 0, []⟩
def osh2kr : Shape := ⟨[(0, .val (.sl 2 (.int .i64))), (1, .val (.int .i64)), (4, .val .bool)], [], 0, []⟩
def un2 : (List Int) × Int × Int → sh2.V := fun (x0, x1, x5) => ((x0, (x1, (x5, ()))), ())
def fl2 : sh2.V → (List Int) × Int × Int := fun ((x0, (x1, (x5, _))), _) => (x0, x1, x5)
def L (k : Nat) (q : Nat) (s : St) (K : AExit → St → Option R) : Option R := bif Nat.beq q 2 then (match sh2.dec s with | some v => l2 (R := R) k k (fl2 v) (fun (x0, x1) => K (.exit 0) (osh2kx0.enc ((x0, (x1, ((), ()))), ()))) (fun (x0, x1, x4) => K .ret (osh2kr.enc ((x0, (x1, (x4, ()))), ()))) | none => none) else (none)
def J (k : Nat) : Inl R := noInl
theorem step2 (k n : Nat) (K : AExit → St → Option R) : ∀ v, aloop (aexec (env k) (J k) (L k) ((findLoop 2 (codeOf Try.f48)).getD .skip)) (normSt [(0, .asis), (1, .asis), (5, .asis)]) (normSt [(0, .asis), (1, .asis), (4, .asis)]) K (n + 1) (sh2.enc (un2 v)) = s2 (R := R) k (fun w => aloop (aexec (env k) (J k) (L k) ((findLoop 2 (codeOf Try.f48)).getD .skip)) (normSt [(0, .asis), (1, .asis), (5, .asis)]) (normSt [(0, .asis), (1, .asis), (4, .asis)]) K n (sh2.enc (un2 w))) (fun (x0, x1) => K (.exit 0) (osh2kx0.enc ((x0, (x1, ((), ()))), ()))) (fun (x0, x1, x4) => K .ret (osh2kr.enc ((x0, (x1, (x4, ()))), ()))) v := by intro v; kernel_rfl
theorem eq (k : Nat) : ∀ a, aexec (env k) (J k) (L k) (codeOf Try.f48) (begSt [.ro (.sl 2 (.int .i64)), .ro (.int .i64)] a) (finK (env k) Try.f48 [.ro (.sl 2 (.int .i64)), .ro (.int .i64)] [.own .bool]) = (entry k).fn a := by intro a; kernel_rfl
theorem run2 (k : Nat) (K : AExit → St → Option R) : ∀ n v, aloop (aexec (env k) (J k) (L k) ((findLoop 2 (codeOf Try.f48)).getD .skip)) (normSt [(0, .asis), (1, .asis), (5, .asis)]) (normSt [(0, .asis), (1, .asis), (4, .asis)]) K n (sh2.enc (un2 v)) = l2 (R := R) k n v (fun (x0, x1) => K (.exit 0) (osh2kx0.enc ((x0, (x1, ((), ()))), ()))) (fun (x0, x1, x4) => K .ret (osh2kr.enc ((x0, (x1, (x4, ()))), ()))) := loop_eq (fun n v => aloop (aexec (env k) (J k) (L k) ((findLoop 2 (codeOf Try.f48)).getD .skip)) (normSt [(0, .asis), (1, .asis), (5, .asis)]) (normSt [(0, .asis), (1, .asis), (4, .asis)]) K n (sh2.enc (un2 v))) (fun n v => l2 (R := R) k n v (fun (x0, x1) => K (.exit 0) (osh2kx0.enc ((x0, (x1, ((), ()))), ()))) (fun (x0, x1, x4) => K .ret (osh2kr.enc ((x0, (x1, (x4, ()))), ())))) (fun X v => s2 (R := R) k X (fun (x0, x1) => K (.exit 0) (osh2kx0.enc ((x0, (x1, ((), ()))), ()))) (fun (x0, x1, x4) => K .ret (osh2kr.enc ((x0, (x1, (x4, ()))), ()))) v) (fun _ => rfl) (fun n v => step2 k n K v) (fun n v => rfl)
theorem loops (k : Nat) : LoopsOk (env k) (J k) (L k) (codeOf Try.f48) := by
  intro c an hc han s K r h
  unfold L at h
  by_cases q2 : firstRegion c = 2
  · have h1 := key_eq q2 h
    rw [q2] at hc han
    have e2 : an = ⟨[(0, .asis), (1, .asis), (5, .asis)], [(0, .asis), (1, .asis), (4, .asis)]⟩ := (Option.some.inj (show some _ = some an from han)).symm
    have e1 : c = (findLoop 2 (codeOf Try.f48)).getD .skip := by rw [hc]; rfl
    cases hd : sh2.dec s with
    | none => rw [hd] at h1; cases h1
    | some v =>
      rw [hd] at h1
      refine ⟨k, ?_⟩
      rw [e1, e2, Shape.dec_enc _ _ _ hd]
      exact (run2 k K k (fl2 v)).trans h1
  have h := not_key q2 h
  cases h
theorem fit (k : Nat) : codeFit (env k) (codeOf Try.f48) = true := by kernel_rfl
theorem lps : (loopsIn (codeOf Try.f48)).map (fun d => findLoop (firstRegion d) (codeOf Try.f48)) = (loopsIn (codeOf Try.f48)).map some := by kernel_rfl
theorem hf : Try.prog.funcs[48]? = some Try.f48 := by kernel_rfl
theorem hb : Try.f48.body = some (codeOf Try.f48) := by kernel_rfl
theorem hn : (Try.f48.name == "runtime.NumGoroutine") = false := by kernel_rfl
theorem hJ (k : Nat) : ∀ C : Ctx, C.P = Try.prog → ∀ r, InlOk C (J k) r := fun C hC r => noInl_ok
theorem sound (k : Nat) : Sound Try.prog 48 (entry k) := func_sound (E := env k) (by kernel_rfl) (by kernel_rfl) (by kernel_rfl) (by kernel_rfl) (tbl_cons (spec_l01In.sound k) tbl_nil) hf hb hn (fit k) (loops_all lps) (hJ k) (loops k) (eq k)
end spec_l10Chips

namespace spec_ArePayments
def entry (k : Nat) : Entry := ⟨[.ro (.sl 2 (.int .i64)), .ro (.sl 4 .bool)], [.own .bool], fun (a0, (a1, _)) => f k a0 a1⟩
def tbl (k : Nat) : List (Nat × Option Entry) := [(47, some (spec_l01In.entry k)), (48, some (spec_l10Chips.entry k))]
abbrev R := Res [.own .bool] × Outs [.ro (.sl 2 (.int .i64)), .ro (.sl 4 .bool)]
def env (k : Nat) : Env := ⟨Try.prog, 35, AM.look none (tbl k), AM.look none [(4, some ⟨[(0, .asis), (1, .asis), (5, .asis)], [(4, .asis)]⟩)]⟩
def sh4 : Shape := ⟨[(0, .val (.sl 2 (.int .i64))), (1, .val (.sl 4 .bool)), (5, .val (.int .i64))], [], 0, []⟩
def osh4kx0 : Shape := ⟨[(4, .undef)], [], 0, []⟩
def osh4kr : Shape := ⟨[(4, .val .bool)], [], 0, []⟩
def un4 : (List Int) × (List Bool) × Int → sh4.V := fun (x0, x1, x5) => ((x0, (x1, (x5, ()))), ())
def fl4 : sh4.V → (List Int) × (List Bool) × Int := fun ((x0, (x1, (x5, _))), _) => (x0, x1, x5)
def L (k : Nat) (q : Nat) (s : St) (K : AExit → St → Option R) : Option R := bif Nat.beq q 4 then (match sh4.dec s with | some v => l4 (R := R) k k (fl4 v) (fun (_ : Unit) => K (.exit 0) (osh4kx0.enc (((), ()), ()))) (fun x4 => K .ret (osh4kr.enc ((x4, ()), ()))) | none => none) else (none)
def J (k : Nat) : Inl R := noInl
theorem step4 (k n : Nat) (K : AExit → St → Option R) : ∀ v, aloop (aexec (env k) (J k) (L k) ((findLoop 4 (codeOf Try.f13)).getD .skip)) (normSt [(0, .asis), (1, .asis), (5, .asis)]) (normSt [(4, .asis)]) K (n + 1) (sh4.enc (un4 v)) = s4 (R := R) k (fun w => aloop (aexec (env k) (J k) (L k) ((findLoop 4 (codeOf Try.f13)).getD .skip)) (normSt [(0, .asis), (1, .asis), (5, .asis)]) (normSt [(4, .asis)]) K n (sh4.enc (un4 w))) (fun (_ : Unit) => K (.exit 0) (osh4kx0.enc (((), ()), ()))) (fun x4 => K .ret (osh4kr.enc ((x4, ()), ()))) v := by intro v; kernel_rfl
theorem eq (k : Nat) : ∀ a, aexec (env k) (J k) (L k) (codeOf Try.f13) (begSt [.ro (.sl 2 (.int .i64)), .ro (.sl 4 .bool)] a) (finK (env k) Try.f13 [.ro (.sl 2 (.int .i64)), .ro (.sl 4 .bool)] [.own .bool]) = (entry k).fn a := by intro a; kernel_rfl
theorem run4 (k : Nat) (K : AExit → St → Option R) : ∀ n v, aloop (aexec (env k) (J k) (L k) ((findLoop 4 (codeOf Try.f13)).getD .skip)) (normSt [(0, .asis), (1, .asis), (5, .asis)]) (normSt [(4, .asis)]) K n (sh4.enc (un4 v)) = l4 (R := R) k n v (fun (_ : Unit) => K (.exit 0) (osh4kx0.enc (((), ()), ()))) (fun x4 => K .ret (osh4kr.enc ((x4, ()), ()))) := loop_eq (fun n v => aloop (aexec (env k) (J k) (L k) ((findLoop 4 (codeOf Try.f13)).getD .skip)) (normSt [(0, .asis), (1, .asis), (5, .asis)]) (normSt [(4, .asis)]) K n (sh4.enc (un4 v))) (fun n v => l4 (R := R) k n v (fun (_ : Unit) => K (.exit 0) (osh4kx0.enc (((), ()), ()))) (fun x4 => K .ret (osh4kr.enc ((x4, ()), ())))) (fun X v => s4 (R := R) k X (fun (_ : Unit) => K (.exit 0) (osh4kx0.enc (((), ()), ()))) (fun x4 => K .ret (osh4kr.enc ((x4, ()), ()))) v) (fun _ => rfl) (fun n v => step4 k n K v) (fun n v => rfl)
theorem loops (k : Nat) : LoopsOk (env k) (J k) (L k) (codeOf Try.f13) := by
  intro c an hc han s K r h
  unfold L at h
  by_cases q4 : firstRegion c = 4
  · have h1 := key_eq q4 h
    rw [q4] at hc han
    have e2 : an = ⟨[(0, .asis), (1, .asis), (5, .asis)], [(4, .asis)]⟩ := (Option.some.inj (show some _ = some an from han)).symm
    have e1 : c = (findLoop 4 (codeOf Try.f13)).getD .skip := by rw [hc]; rfl
    cases hd : sh4.dec s with
    | none => rw [hd] at h1; cases h1
    | some v =>
      rw [hd] at h1
      refine ⟨k, ?_⟩
      rw [e1, e2, Shape.dec_enc _ _ _ hd]
      exact (run4 k K k (fl4 v)).trans h1
  have h := not_key q4 h
  cases h
theorem fit (k : Nat) : codeFit (env k) (codeOf Try.f13) = true := by kernel_rfl
theorem lps : (loopsIn (codeOf Try.f13)).map (fun d => findLoop (firstRegion d) (codeOf Try.f13)) = (loopsIn (codeOf Try.f13)).map some := by kernel_rfl
theorem hf : Try.prog.funcs[13]? = some Try.f13 := by kernel_rfl
theorem hb : Try.f13.body = some (codeOf Try.f13) := by kernel_rfl
theorem hn : (Try.f13.name == "runtime.NumGoroutine") = false := by kernel_rfl
theorem hJ (k : Nat) : ∀ C : Ctx, C.P = Try.prog → ∀ r, InlOk C (J k) r := fun C hC r => noInl_ok
theorem sound (k : Nat) : Sound Try.prog 13 (entry k) := func_sound (E := env k) (by kernel_rfl) (by kernel_rfl) (by kernel_rfl) (by kernel_rfl) (tbl_cons (spec_l01In.sound k) (tbl_cons (spec_l10Chips.sound k) tbl_nil)) hf hb hn (fit k) (loops_all lps) (hJ k) (loops k) (eq k)
end spec_ArePayments

namespace spec_l12Uncalled
def entry (k : Nat) : Entry := ⟨[.ro (.sl 2 (.int .i64))], [.own (.int .i64), .own (.int .i64)], fun (a0, _) => f k a0⟩
def tbl (k : Nat) : List (Nat × Option Entry) := []
abbrev R := Res [.own (.int .i64), .own (.int .i64)] × Outs [.ro (.sl 2 (.int .i64))]
def env (k : Nat) : Env := ⟨Try.prog, 52, AM.look none (tbl k), AM.look none [(3, some ⟨[(0, .asis), (4, .asis), (5, .asis)], [(0, .asis), (4, .asis)]⟩), (9, some ⟨[(0, .asis), (4, .asis), (6, .asis), (7, .asis)], [(0, .asis), (4, .asis), (6, .asis)]⟩)]⟩
def sh3 : Shape := ⟨[(0, .val (.sl 2 (.int .i64))), (4, .val (.int .i64)), (5, .val (.int .i64))], [], 0, []⟩
def osh3kx0 : Shape := ⟨[(0, .val (.sl 2 (.int .i64))), (4, .val (.int .i64))], [], 0, []⟩
def un3 : (List Int) × Int × Int → sh3.V := fun (x0, x4, x5) => ((x0, (x4, (x5, ()))), ())
def fl3 : sh3.V → (List Int) × Int × Int := fun ((x0, (x4, (x5, _))), _) => (x0, x4, x5)
def sh9 : Shape := ⟨[(0, .val (.sl 2 (.int .i64))), (4, .val (.int .i64)), (6, .val (.int .i64)), (7, .val (.int .i64))], [], 0, []⟩
def osh9kx2 : Shape := ⟨[(0, .val (.sl 2 (.int .i64))), (4, .val (.int .i64)), (6, .val (.int .i64))], [], 0, []⟩
def un9 : (List Int) × Int × Int × Int → sh9.V := fun (x0, x4, x6, x7) => ((x0, (x4, (x6, (x7, ())))), ())
def fl9 : sh9.V → (List Int) × Int × Int × Int := fun ((x0, (x4, (x6, (x7, _)))), _) => (x0, x4, x6, x7)
def L (k : Nat) (q : Nat) (s : St) (K : AExit → St → Option R) : Option R := bif Nat.beq q 3 then (match sh3.dec s with | some v => l3 (R := R) k k (fl3 v) (fun (x0, x4) => K (.exit 0) (osh3kx0.enc ((x0, (x4, ())), ()))) | none => none) else (bif Nat.beq q 9 then (match sh9.dec s with | some v => l9 (R := R) k k (fl9 v) (fun (x0, x4, x6) => K (.exit 2) (osh9kx2.enc ((x0, (x4, (x6, ()))), ()))) | none => none) else (none))
def J (k : Nat) : Inl R := noInl
theorem step3 (k n : Nat) (K : AExit → St → Option R) : ∀ v, aloop (aexec (env k) (J k) (L k) ((findLoop 3 (codeOf Try.f54)).getD .skip)) (normSt [(0, .asis), (4, .asis), (5, .asis)]) (normSt [(0, .asis), (4, .asis)]) K (n + 1) (sh3.enc (un3 v)) = s3 (R := R) k (fun w => aloop (aexec (env k) (J k) (L k) ((findLoop 3 (codeOf Try.f54)).getD .skip)) (normSt [(0, .asis), (4, .asis), (5, .asis)]) (normSt [(0, .asis), (4, .asis)]) K n (sh3.enc (un3 w))) (fun (x0, x4) => K (.exit 0) (osh3kx0.enc ((x0, (x4, ())), ()))) v := by intro v; kernel_rfl
theorem step9 (k n : Nat) (K : AExit → St → Option R) : ∀ v, aloop (aexec (env k) (J k) (L k) ((findLoop 9 (codeOf Try.f54)).getD .skip)) (normSt [(0, .asis), (4, .asis), (6, .asis), (7, .asis)]) (normSt [(0, .asis), (4, .asis), (6, .asis)]) K (n + 1) (sh9.enc (un9 v)) = s9 (R := R) k (fun w => aloop (aexec (env k) (J k) (L k) ((findLoop 9 (codeOf Try.f54)).getD .skip)) (normSt [(0, .asis), (4, .asis), (6, .asis), (7, .asis)]) (normSt [(0, .asis), (4, .asis), (6, .asis)]) K n (sh9.enc (un9 w))) (fun (x0, x4, x6) => K (.exit 2) (osh9kx2.enc ((x0, (x4, (x6, ()))), ()))) v := by intro v; kernel_rfl
theorem eq (k : Nat) : ∀ a, aexec (env k) (J k) (L k) (codeOf Try.f54) (begSt [.ro (.sl 2 (.int .i64))] a) (finK (env k) Try.f54 [.ro (.sl 2 (.int .i64))] [.own (.int .i64), .own (.int .i64)]) = (entry k).fn a := by intro a; kernel_rfl
theorem run3 (k : Nat) (K : AExit → St → Option R) : ∀ n v, aloop (aexec (env k) (J k) (L k) ((findLoop 3 (codeOf Try.f54)).getD .skip)) (normSt [(0, .asis), (4, .asis), (5, .asis)]) (normSt [(0, .asis), (4, .asis)]) K n (sh3.enc (un3 v)) = l3 (R := R) k n v (fun (x0, x4) => K (.exit 0) (osh3kx0.enc ((x0, (x4, ())), ()))) := loop_eq (fun n v => aloop (aexec (env k) (J k) (L k) ((findLoop 3 (codeOf Try.f54)).getD .skip)) (normSt [(0, .asis), (4, .asis), (5, .asis)]) (normSt [(0, .asis), (4, .asis)]) K n (sh3.enc (un3 v))) (fun n v => l3 (R := R) k n v (fun (x0, x4) => K (.exit 0) (osh3kx0.enc ((x0, (x4, ())), ())))) (fun X v => s3 (R := R) k X (fun (x0, x4) => K (.exit 0) (osh3kx0.enc ((x0, (x4, ())), ()))) v) (fun _ => rfl) (fun n v => step3 k n K v) (fun n v => rfl)
theorem run9 (k : Nat) (K : AExit → St → Option R) : ∀ n v, aloop (aexec (env k) (J k) (L k) ((findLoop 9 (codeOf Try.f54)).getD .skip)) (normSt [(0, .asis), (4, .asis), (6, .asis), (7, .asis)]) (normSt [(0, .asis), (4, .asis), (6, .asis)]) K n (sh9.enc (un9 v)) = l9 (R := R) k n v (fun (x0, x4, x6) => K (.exit 2) (osh9kx2.enc ((x0, (x4, (x6, ()))), ()))) := loop_eq (fun n v => aloop (aexec (env k) (J k) (L k) ((findLoop 9 (codeOf Try.f54)).getD .skip)) (normSt [(0, .asis), (4, .asis), (6, .asis), (7, .asis)]) (normSt [(0, .asis), (4, .asis), (6, .asis)]) K n (sh9.enc (un9 v))) (fun n v => l9 (R := R) k n v (fun (x0, x4, x6) => K (.exit 2) (osh9kx2.enc ((x0, (x4, (x6, ()))), ())))) (fun X v => s9 (R := R) k X (fun (x0, x4, x6) => K (.exit 2) (osh9kx2.enc ((x0, (x4, (x6, ()))), ()))) v) (fun _ => rfl) (fun n v => step9 k n K v) (fun n v => rfl)
theorem loops (k : Nat) : LoopsOk (env k) (J k) (L k) (codeOf Try.f54) := by
  intro c an hc han s K r h
  unfold L at h
  by_cases q3 : firstRegion c = 3
  · have h1 := key_eq q3 h
    rw [q3] at hc han
    have e2 : an = ⟨[(0, .asis), (4, .asis), (5, .asis)], [(0, .asis), (4, .asis)]⟩ := (Option.some.inj (show some _ = some an from han)).symm
    have e1 : c = (findLoop 3 (codeOf Try.f54)).getD .skip := by rw [hc]; rfl
    cases hd : sh3.dec s with
    | none => rw [hd] at h1; cases h1
    | some v =>
      rw [hd] at h1
      refine ⟨k, ?_⟩
      rw [e1, e2, Shape.dec_enc _ _ _ hd]
      exact (run3 k K k (fl3 v)).trans h1
  have h := not_key q3 h
  by_cases q9 : firstRegion c = 9
  · have h1 := key_eq q9 h
    rw [q9] at hc han
    have e2 : an = ⟨[(0, .asis), (4, .asis), (6, .asis), (7, .asis)], [(0, .asis), (4, .asis), (6, .asis)]⟩ := (Option.some.inj (show some _ = some an from han)).symm
    have e1 : c = (findLoop 9 (codeOf Try.f54)).getD .skip := by rw [hc]; rfl
    cases hd : sh9.dec s with
    | none => rw [hd] at h1; cases h1
    | some v =>
      rw [hd] at h1
      refine ⟨k, ?_⟩
      rw [e1, e2, Shape.dec_enc _ _ _ hd]
      exact (run9 k K k (fl9 v)).trans h1
  have h := not_key q9 h
  cases h
theorem fit (k : Nat) : codeFit (env k) (codeOf Try.f54) = true := by kernel_rfl
theorem lps : (loopsIn (codeOf Try.f54)).map (fun d => findLoop (firstRegion d) (codeOf Try.f54)) = (loopsIn (codeOf Try.f54)).map some := by kernel_rfl
theorem hf : Try.prog.funcs[54]? = some Try.f54 := by kernel_rfl
theorem hb : Try.f54.body = some (codeOf Try.f54) := by kernel_rfl
theorem hn : (Try.f54.name == "runtime.NumGoroutine") = false := by kernel_rfl
theorem hJ (k : Nat) : ∀ C : Ctx, C.P = Try.prog → ∀ r, InlOk C (J k) r := fun C hC r => noInl_ok
theorem sound (k : Nat) : Sound Try.prog 54 (entry k) := func_sound (E := env k) (by kernel_rfl) (by kernel_rfl) (by kernel_rfl) (by kernel_rfl) tbl_nil hf hb hn (fit k) (loops_all lps) (hJ k) (loops k) (eq k)
end spec_l12Uncalled

namespace spec_l01Own
def entry (k : Nat) : Entry := ⟨[.ro (.sl 2 (.int .i64))], [.own (.sl 2 (.int .i64))], fun (a0, _) => f k a0⟩
def tbl (k : Nat) : List (Nat × Option Entry) := []
abbrev R := Res [.own (.sl 2 (.int .i64))] × Outs [.ro (.sl 2 (.int .i64))]
def env (k : Nat) : Env := ⟨Try.prog, 6, AM.look none (tbl k), AM.look none []⟩
def L (k : Nat) (q : Nat) (s : St) (K : AExit → St → Option R) : Option R := none
def J (k : Nat) : Inl R := noInl
theorem eq (k : Nat) : ∀ a, aexec (env k) (J k) (L k) (codeOf Try.f68) (begSt [.ro (.sl 2 (.int .i64))] a) (finK (env k) Try.f68 [.ro (.sl 2 (.int .i64))] [.own (.sl 2 (.int .i64))]) = (entry k).fn a := by intro a; kernel_rfl
theorem loops (k : Nat) : LoopsOk (env k) (J k) (L k) (codeOf Try.f68) := by
  intro c an hc han s K r h
  unfold L at h
  cases h
theorem fit (k : Nat) : codeFit (env k) (codeOf Try.f68) = true := by kernel_rfl
theorem lps : (loopsIn (codeOf Try.f68)).map (fun d => findLoop (firstRegion d) (codeOf Try.f68)) = (loopsIn (codeOf Try.f68)).map some := by kernel_rfl
theorem hf : Try.prog.funcs[68]? = some Try.f68 := by kernel_rfl
theorem hb : Try.f68.body = some (codeOf Try.f68) := by kernel_rfl
theorem hn : (Try.f68.name == "runtime.NumGoroutine") = false := by kernel_rfl
theorem hJ (k : Nat) : ∀ C : Ctx, C.P = Try.prog → ∀ r, InlOk C (J k) r := fun C hC r => noInl_ok
theorem sound (k : Nat) : Sound Try.prog 68 (entry k) := func_sound (E := env k) (by kernel_rfl) (by kernel_rfl) (by kernel_rfl) (by kernel_rfl) tbl_nil hf hb hn (fit k) (loops_all lps) (hJ k) (loops k) (eq k)
end spec_l01Own

namespace spec_l12Refund
def entry (k : Nat) : Entry := ⟨[.ro (.sl 2 (.int .i64))], [.own (.sl 2 (.int .i64))], fun (a0, _) => f k a0⟩
def tbl (k : Nat) : List (Nat × Option Entry) := [(54, some (spec_l12Uncalled.entry k)), (68, some (spec_l01Own.entry k))]
abbrev R := Res [.own (.sl 2 (.int .i64))] × Outs [.ro (.sl 2 (.int .i64))]
def env (k : Nat) : Env := ⟨Try.prog, 23, AM.look none (tbl k), AM.look none []⟩
def L (k : Nat) (q : Nat) (s : St) (K : AExit → St → Option R) : Option R := none
def J (k : Nat) : Inl R := noInl
theorem eq (k : Nat) : ∀ a, aexec (env k) (J k) (L k) (codeOf Try.f56) (begSt [.ro (.sl 2 (.int .i64))] a) (finK (env k) Try.f56 [.ro (.sl 2 (.int .i64))] [.own (.sl 2 (.int .i64))]) = (entry k).fn a := by intro a; kernel_rfl
theorem loops (k : Nat) : LoopsOk (env k) (J k) (L k) (codeOf Try.f56) := by
  intro c an hc han s K r h
  unfold L at h
  cases h
theorem fit (k : Nat) : codeFit (env k) (codeOf Try.f56) = true := by kernel_rfl
theorem lps : (loopsIn (codeOf Try.f56)).map (fun d => findLoop (firstRegion d) (codeOf Try.f56)) = (loopsIn (codeOf Try.f56)).map some := by kernel_rfl
theorem hf : Try.prog.funcs[56]? = some Try.f56 := by kernel_rfl
theorem hb : Try.f56.body = some (codeOf Try.f56) := by kernel_rfl
theorem hn : (Try.f56.name == "runtime.NumGoroutine") = false := by kernel_rfl
theorem hJ (k : Nat) : ∀ C : Ctx, C.P = Try.prog → ∀ r, InlOk C (J k) r := fun C hC r => noInl_ok
theorem sound (k : Nat) : Sound Try.prog 56 (entry k) := func_sound (E := env k) (by kernel_rfl) (by kernel_rfl) (by kernel_rfl) (by kernel_rfl) (tbl_cons (spec_l12Uncalled.sound k) (tbl_cons (spec_l01Own.sound k) tbl_nil)) hf hb hn (fit k) (loops_all lps) (hJ k) (loops k) (eq k)
end spec_l12Refund

namespace spec_RefundOf
def entry (k : Nat) : Entry := ⟨[.ro (.sl 2 (.int .i64)), .ro (.sl 4 .bool)], [.own (.sl 2 (.int .i64)), .own (.int .i64)], fun (a0, (a1, _)) => f k a0 a1⟩
def tbl (k : Nat) : List (Nat × Option Entry) := [(13, some (spec_ArePayments.entry k)), (56, some (spec_l12Refund.entry k))]
abbrev R := Res [.own (.sl 2 (.int .i64)), .own (.int .i64)] × Outs [.ro (.sl 2 (.int .i64)), .ro (.sl 4 .bool)]
def env (k : Nat) : Env := ⟨Try.prog, 12, AM.look none (tbl k), AM.look none []⟩
def L (k : Nat) (q : Nat) (s : St) (K : AExit → St → Option R) : Option R := none
def J (k : Nat) : Inl R := noInl
theorem eq (k : Nat) : ∀ a, aexec (env k) (J k) (L k) (codeOf Try.f25) (begSt [.ro (.sl 2 (.int .i64)), .ro (.sl 4 .bool)] a) (finK (env k) Try.f25 [.ro (.sl 2 (.int .i64)), .ro (.sl 4 .bool)] [.own (.sl 2 (.int .i64)), .own (.int .i64)]) = (entry k).fn a := by intro a; kernel_rfl
theorem loops (k : Nat) : LoopsOk (env k) (J k) (L k) (codeOf Try.f25) := by
  intro c an hc han s K r h
  unfold L at h
  cases h
theorem fit (k : Nat) : codeFit (env k) (codeOf Try.f25) = true := by kernel_rfl
theorem lps : (loopsIn (codeOf Try.f25)).map (fun d => findLoop (firstRegion d) (codeOf Try.f25)) = (loopsIn (codeOf Try.f25)).map some := by kernel_rfl
theorem hf : Try.prog.funcs[25]? = some Try.f25 := by kernel_rfl
theorem hb : Try.f25.body = some (codeOf Try.f25) := by kernel_rfl
theorem hn : (Try.f25.name == "runtime.NumGoroutine") = false := by kernel_rfl
theorem hJ (k : Nat) : ∀ C : Ctx, C.P = Try.prog → ∀ r, InlOk C (J k) r := fun C hC r => noInl_ok
theorem sound (k : Nat) : Sound Try.prog 25 (entry k) := func_sound (E := env k) (by kernel_rfl) (by kernel_rfl) (by kernel_rfl) (by kernel_rfl) (tbl_cons (spec_ArePayments.sound k) (tbl_cons (spec_l12Refund.sound k) tbl_nil)) hf hb hn (fit k) (loops_all lps) (hJ k) (loops k) (eq k)
end spec_RefundOf

namespace slices_Clone_int64_int64
def entry (k : Nat) : Entry := ⟨[.ro (.sl 2 (.int .i64))], [.own (.sl 2 (.int .i64))], fun (a0, _) => f k a0⟩
def tbl (k : Nat) : List (Nat × Option Entry) := []
abbrev R := Res [.own (.sl 2 (.int .i64))] × Outs [.ro (.sl 2 (.int .i64))]
def env (k : Nat) : Env := ⟨Try.prog, 8, AM.look none (tbl k), AM.look none []⟩
def L (k : Nat) (q : Nat) (s : St) (K : AExit → St → Option R) : Option R := none
def J (k : Nat) : Inl R := noInl
theorem eq (k : Nat) : ∀ a, aexec (env k) (J k) (L k) (codeOf Try.f53) (begSt [.ro (.sl 2 (.int .i64))] a) (finK (env k) Try.f53 [.ro (.sl 2 (.int .i64))] [.own (.sl 2 (.int .i64))]) = (entry k).fn a := by intro a; kernel_rfl
theorem loops (k : Nat) : LoopsOk (env k) (J k) (L k) (codeOf Try.f53) := by
  intro c an hc han s K r h
  unfold L at h
  cases h
theorem fit (k : Nat) : codeFit (env k) (codeOf Try.f53) = true := by kernel_rfl
theorem lps : (loopsIn (codeOf Try.f53)).map (fun d => findLoop (firstRegion d) (codeOf Try.f53)) = (loopsIn (codeOf Try.f53)).map some := by kernel_rfl
theorem hf : Try.prog.funcs[53]? = some Try.f53 := by kernel_rfl
theorem hb : Try.f53.body = some (codeOf Try.f53) := by kernel_rfl
theorem hn : (Try.f53.name == "runtime.NumGoroutine") = false := by kernel_rfl
theorem hJ (k : Nat) : ∀ C : Ctx, C.P = Try.prog → ∀ r, InlOk C (J k) r := fun C hC r => noInl_ok
theorem sound (k : Nat) : Sound Try.prog 53 (entry k) := func_sound (E := env k) (by kernel_rfl) (by kernel_rfl) (by kernel_rfl) (by kernel_rfl) tbl_nil hf hb hn (fit k) (loops_all lps) (hJ k) (loops k) (eq k)
end slices_Clone_int64_int64

namespace impl_refunded
def entry (k : Nat) : Entry := ⟨[.ro (.sl 2 (.int .i64))], [.own (.sl 2 (.int .i64))], fun (a0, _) => f k a0⟩
def tbl (k : Nat) : List (Nat × Option Entry) := [(53, some (slices_Clone_int64_int64.entry k)), (55, some (impl_uncalledOf.entry k))]
abbrev R := Res [.own (.sl 2 (.int .i64))] × Outs [.ro (.sl 2 (.int .i64))]
def env (k : Nat) : Env := ⟨Try.prog, 21, AM.look none (tbl k), AM.look none []⟩
def L (k : Nat) (q : Nat) (s : St) (K : AExit → St → Option R) : Option R := none
def J (k : Nat) : Inl R := noInl
theorem eq (k : Nat) : ∀ a, aexec (env k) (J k) (L k) (codeOf Try.f57) (begSt [.ro (.sl 2 (.int .i64))] a) (finK (env k) Try.f57 [.ro (.sl 2 (.int .i64))] [.own (.sl 2 (.int .i64))]) = (entry k).fn a := by intro a; kernel_rfl
theorem loops (k : Nat) : LoopsOk (env k) (J k) (L k) (codeOf Try.f57) := by
  intro c an hc han s K r h
  unfold L at h
  cases h
theorem fit (k : Nat) : codeFit (env k) (codeOf Try.f57) = true := by kernel_rfl
theorem lps : (loopsIn (codeOf Try.f57)).map (fun d => findLoop (firstRegion d) (codeOf Try.f57)) = (loopsIn (codeOf Try.f57)).map some := by kernel_rfl
theorem hf : Try.prog.funcs[57]? = some Try.f57 := by kernel_rfl
theorem hb : Try.f57.body = some (codeOf Try.f57) := by kernel_rfl
theorem hn : (Try.f57.name == "runtime.NumGoroutine") = false := by kernel_rfl
theorem hJ (k : Nat) : ∀ C : Ctx, C.P = Try.prog → ∀ r, InlOk C (J k) r := fun C hC r => noInl_ok
theorem sound (k : Nat) : Sound Try.prog 57 (entry k) := func_sound (E := env k) (by kernel_rfl) (by kernel_rfl) (by kernel_rfl) (by kernel_rfl) (tbl_cons (slices_Clone_int64_int64.sound k) (tbl_cons (impl_uncalledOf.sound k) tbl_nil)) hf hb hn (fit k) (loops_all lps) (hJ k) (loops k) (eq k)
end impl_refunded

namespace impl_RefundOf
def entry (k : Nat) : Entry := ⟨[.ro (.sl 2 (.int .i64)), .ro (.sl 4 .bool)], [.own (.sl 2 (.int .i64)), .own (.int .i64)], fun (a0, (a1, _)) => f k a0 a1⟩
def tbl (k : Nat) : List (Nat × Option Entry) := [(16, some (impl_ArePayments.entry k)), (57, some (impl_refunded.entry k))]
abbrev R := Res [.own (.sl 2 (.int .i64)), .own (.int .i64)] × Outs [.ro (.sl 2 (.int .i64)), .ro (.sl 4 .bool)]
def env (k : Nat) : Env := ⟨Try.prog, 12, AM.look none (tbl k), AM.look none []⟩
def L (k : Nat) (q : Nat) (s : St) (K : AExit → St → Option R) : Option R := none
def J (k : Nat) : Inl R := noInl
theorem eq (k : Nat) : ∀ a, aexec (env k) (J k) (L k) (codeOf Try.f26) (begSt [.ro (.sl 2 (.int .i64)), .ro (.sl 4 .bool)] a) (finK (env k) Try.f26 [.ro (.sl 2 (.int .i64)), .ro (.sl 4 .bool)] [.own (.sl 2 (.int .i64)), .own (.int .i64)]) = (entry k).fn a := by intro a; kernel_rfl
theorem loops (k : Nat) : LoopsOk (env k) (J k) (L k) (codeOf Try.f26) := by
  intro c an hc han s K r h
  unfold L at h
  cases h
theorem fit (k : Nat) : codeFit (env k) (codeOf Try.f26) = true := by kernel_rfl
theorem lps : (loopsIn (codeOf Try.f26)).map (fun d => findLoop (firstRegion d) (codeOf Try.f26)) = (loopsIn (codeOf Try.f26)).map some := by kernel_rfl
theorem hf : Try.prog.funcs[26]? = some Try.f26 := by kernel_rfl
theorem hb : Try.f26.body = some (codeOf Try.f26) := by kernel_rfl
theorem hn : (Try.f26.name == "runtime.NumGoroutine") = false := by kernel_rfl
theorem hJ (k : Nat) : ∀ C : Ctx, C.P = Try.prog → ∀ r, InlOk C (J k) r := fun C hC r => noInl_ok
theorem sound (k : Nat) : Sound Try.prog 26 (entry k) := func_sound (E := env k) (by kernel_rfl) (by kernel_rfl) (by kernel_rfl) (by kernel_rfl) (tbl_cons (impl_ArePayments.sound k) (tbl_cons (impl_refunded.sound k) tbl_nil)) hf hb hn (fit k) (loops_all lps) (hJ k) (loops k) (eq k)
end impl_RefundOf

namespace impl_liveSeats
def entry (k : Nat) : Entry := ⟨[.ro (.sl 4 .bool)], [.own (.sl 2 (.int .i64))], fun (a0, _) => f k a0⟩
def tbl (k : Nat) : List (Nat × Option Entry) := []
abbrev R := Res [.own (.sl 2 (.int .i64))] × Outs [.ro (.sl 4 .bool)]
def env (k : Nat) : Env := ⟨Try.prog, 21, AM.look none (tbl k), AM.look none [(3, some ⟨[(3, .row 2 (.int .i64)), (6, .asis), (7, .asis), (8, .asis)], [(3, .asis)]⟩)]⟩
def sh3 : Shape := ⟨[(3, .ref 0), (6, .val (.sl 4 .bool)), (7, .val (.int .i64)), (8, .val (.int .i64))], [(0, .row 2 (.int .i64))], 1, []⟩
def osh3kx0 : Shape := ⟨[(3, .ref 0)], [(0, .row 2 (.int .i64))], 1, []⟩
def un3 : (List Bool) × Int × Int × (List Int) → sh3.V := fun (x6, x7, x8, y0) => (((), (x6, (x7, (x8, ())))), (y0, ()))
def fl3 : sh3.V → (List Bool) × Int × Int × (List Int) := fun ((_, (x6, (x7, (x8, _)))), (y0, _)) => (x6, x7, x8, y0)
def L (k : Nat) (q : Nat) (s : St) (K : AExit → St → Option R) : Option R := bif Nat.beq q 3 then (match sh3.dec s with | some v => l3 (R := R) k k (fl3 v) (fun y0 => K (.exit 0) (osh3kx0.enc (((), ()), (y0, ())))) | none => none) else (none)
def J (k : Nat) : Inl R := noInl
theorem step3 (k n : Nat) (K : AExit → St → Option R) : ∀ v, aloop (aexec (env k) (J k) (L k) ((findLoop 3 (codeOf Try.f69)).getD .skip)) (normSt [(3, .row 2 (.int .i64)), (6, .asis), (7, .asis), (8, .asis)]) (normSt [(3, .asis)]) K (n + 1) (sh3.enc (un3 v)) = s3 (R := R) k (fun w => aloop (aexec (env k) (J k) (L k) ((findLoop 3 (codeOf Try.f69)).getD .skip)) (normSt [(3, .row 2 (.int .i64)), (6, .asis), (7, .asis), (8, .asis)]) (normSt [(3, .asis)]) K n (sh3.enc (un3 w))) (fun y0 => K (.exit 0) (osh3kx0.enc (((), ()), (y0, ())))) v := by intro v; kernel_rfl
theorem eq (k : Nat) : ∀ a, aexec (env k) (J k) (L k) (codeOf Try.f69) (begSt [.ro (.sl 4 .bool)] a) (finK (env k) Try.f69 [.ro (.sl 4 .bool)] [.own (.sl 2 (.int .i64))]) = (entry k).fn a := by intro a; kernel_rfl
theorem run3 (k : Nat) (K : AExit → St → Option R) : ∀ n v, aloop (aexec (env k) (J k) (L k) ((findLoop 3 (codeOf Try.f69)).getD .skip)) (normSt [(3, .row 2 (.int .i64)), (6, .asis), (7, .asis), (8, .asis)]) (normSt [(3, .asis)]) K n (sh3.enc (un3 v)) = l3 (R := R) k n v (fun y0 => K (.exit 0) (osh3kx0.enc (((), ()), (y0, ())))) := loop_eq (fun n v => aloop (aexec (env k) (J k) (L k) ((findLoop 3 (codeOf Try.f69)).getD .skip)) (normSt [(3, .row 2 (.int .i64)), (6, .asis), (7, .asis), (8, .asis)]) (normSt [(3, .asis)]) K n (sh3.enc (un3 v))) (fun n v => l3 (R := R) k n v (fun y0 => K (.exit 0) (osh3kx0.enc (((), ()), (y0, ()))))) (fun X v => s3 (R := R) k X (fun y0 => K (.exit 0) (osh3kx0.enc (((), ()), (y0, ())))) v) (fun _ => rfl) (fun n v => step3 k n K v) (fun n v => rfl)
theorem loops (k : Nat) : LoopsOk (env k) (J k) (L k) (codeOf Try.f69) := by
  intro c an hc han s K r h
  unfold L at h
  by_cases q3 : firstRegion c = 3
  · have h1 := key_eq q3 h
    rw [q3] at hc han
    have e2 : an = ⟨[(3, .row 2 (.int .i64)), (6, .asis), (7, .asis), (8, .asis)], [(3, .asis)]⟩ := (Option.some.inj (show some _ = some an from han)).symm
    have e1 : c = (findLoop 3 (codeOf Try.f69)).getD .skip := by rw [hc]; rfl
    cases hd : sh3.dec s with
    | none => rw [hd] at h1; cases h1
    | some v =>
      rw [hd] at h1
      refine ⟨k, ?_⟩
      rw [e1, e2, Shape.dec_enc _ _ _ hd]
      exact (run3 k K k (fl3 v)).trans h1
  have h := not_key q3 h
  cases h
theorem fit (k : Nat) : codeFit (env k) (codeOf Try.f69) = true := by kernel_rfl
theorem lps : (loopsIn (codeOf Try.f69)).map (fun d => findLoop (firstRegion d) (codeOf Try.f69)) = (loopsIn (codeOf Try.f69)).map some := by kernel_rfl
theorem hf : Try.prog.funcs[69]? = some Try.f69 := by kernel_rfl
theorem hb : Try.f69.body = some (codeOf Try.f69) := by kernel_rfl
theorem hn : (Try.f69.name == "runtime.NumGoroutine") = false := by kernel_rfl
theorem hJ (k : Nat) : ∀ C : Ctx, C.P = Try.prog → ∀ r, InlOk C (J k) r := fun C hC r => noInl_ok
theorem sound (k : Nat) : Sound Try.prog 69 (entry k) := func_sound (E := env k) (by kernel_rfl) (by kernel_rfl) (by kernel_rfl) (by kernel_rfl) tbl_nil hf hb hn (fit k) (loops_all lps) (hJ k) (loops k) (eq k)
end impl_liveSeats

namespace cmp_isNaN_int64
def entry (k : Nat) : Entry := ⟨[.ro (.int .i64)], [.own .bool], fun (a0, _) => f k a0⟩
def tbl (k : Nat) : List (Nat × Option Entry) := []
abbrev R := Res [.own .bool] × Outs [.ro (.int .i64)]
def env (k : Nat) : Env := ⟨Try.prog, 6, AM.look none (tbl k), AM.look none []⟩
def L (k : Nat) (q : Nat) (s : St) (K : AExit → St → Option R) : Option R := none
def J (k : Nat) : Inl R := noInl
theorem eq (k : Nat) : ∀ a, aexec (env k) (J k) (L k) (codeOf Try.f93) (begSt [.ro (.int .i64)] a) (finK (env k) Try.f93 [.ro (.int .i64)] [.own .bool]) = (entry k).fn a := by intro a; kernel_rfl
theorem loops (k : Nat) : LoopsOk (env k) (J k) (L k) (codeOf Try.f93) := by
  intro c an hc han s K r h
  unfold L at h
  cases h
theorem fit (k : Nat) : codeFit (env k) (codeOf Try.f93) = true := by kernel_rfl
theorem lps : (loopsIn (codeOf Try.f93)).map (fun d => findLoop (firstRegion d) (codeOf Try.f93)) = (loopsIn (codeOf Try.f93)).map some := by kernel_rfl
theorem hf : Try.prog.funcs[93]? = some Try.f93 := by kernel_rfl
theorem hb : Try.f93.body = some (codeOf Try.f93) := by kernel_rfl
theorem hn : (Try.f93.name == "runtime.NumGoroutine") = false := by kernel_rfl
theorem hJ (k : Nat) : ∀ C : Ctx, C.P = Try.prog → ∀ r, InlOk C (J k) r := fun C hC r => noInl_ok
theorem sound (k : Nat) : Sound Try.prog 93 (entry k) := func_sound (E := env k) (by kernel_rfl) (by kernel_rfl) (by kernel_rfl) (by kernel_rfl) tbl_nil hf hb hn (fit k) (loops_all lps) (hJ k) (loops k) (eq k)
end cmp_isNaN_int64

namespace cmp_Less_int64
def entry (k : Nat) : Entry := ⟨[.ro (.int .i64), .ro (.int .i64)], [.own .bool], fun (a0, (a1, _)) => f k a0 a1⟩
def tbl (k : Nat) : List (Nat × Option Entry) := [(93, some (cmp_isNaN_int64.entry k))]
abbrev R := Res [.own .bool] × Outs [.ro (.int .i64), .ro (.int .i64)]
def env (k : Nat) : Env := ⟨Try.prog, 17, AM.look none (tbl k), AM.look none []⟩
def L (k : Nat) (q : Nat) (s : St) (K : AExit → St → Option R) : Option R := none
def J (k : Nat) : Inl R := noInl
theorem eq (k : Nat) : ∀ a, aexec (env k) (J k) (L k) (codeOf Try.f83) (begSt [.ro (.int .i64), .ro (.int .i64)] a) (finK (env k) Try.f83 [.ro (.int .i64), .ro (.int .i64)] [.own .bool]) = (entry k).fn a := by intro a; kernel_rfl
theorem loops (k : Nat) : LoopsOk (env k) (J k) (L k) (codeOf Try.f83) := by
  intro c an hc han s K r h
  unfold L at h
  cases h
theorem fit (k : Nat) : codeFit (env k) (codeOf Try.f83) = true := by kernel_rfl
theorem lps : (loopsIn (codeOf Try.f83)).map (fun d => findLoop (firstRegion d) (codeOf Try.f83)) = (loopsIn (codeOf Try.f83)).map some := by kernel_rfl
theorem hf : Try.prog.funcs[83]? = some Try.f83 := by kernel_rfl
theorem hb : Try.f83.body = some (codeOf Try.f83) := by kernel_rfl
theorem hn : (Try.f83.name == "runtime.NumGoroutine") = false := by kernel_rfl
theorem hJ (k : Nat) : ∀ C : Ctx, C.P = Try.prog → ∀ r, InlOk C (J k) r := fun C hC r => noInl_ok
theorem sound (k : Nat) : Sound Try.prog 83 (entry k) := func_sound (E := env k) (by kernel_rfl) (by kernel_rfl) (by kernel_rfl) (by kernel_rfl) (tbl_cons (cmp_isNaN_int64.sound k) tbl_nil) hf hb hn (fit k) (loops_all lps) (hJ k) (loops k) (eq k)
end cmp_Less_int64

namespace bits_Len64
def entry (k : Nat) : Entry := ⟨[.ro (.int .u64)], [.own (.int .i64)], fun (a0, _) => f k a0⟩
def tbl (k : Nat) : List (Nat × Option Entry) := []
abbrev R := Res [.own (.int .i64)] × Outs [.ro (.int .u64)]
def env (k : Nat) : Env := ⟨Try.prog, 25, AM.look none (tbl k), AM.look none []⟩
def L (k : Nat) (q : Nat) (s : St) (K : AExit → St → Option R) : Option R := none
def J (k : Nat) : Inl R := noInl
theorem eq (k : Nat) : ∀ a, aexec (env k) (J k) (L k) (codeOf Try.f87) (begSt [.ro (.int .u64)] a) (finK (env k) Try.f87 [.ro (.int .u64)] [.own (.int .i64)]) = (entry k).fn a := by intro a; kernel_rfl
theorem loops (k : Nat) : LoopsOk (env k) (J k) (L k) (codeOf Try.f87) := by
  intro c an hc han s K r h
  unfold L at h
  cases h
theorem fit (k : Nat) : codeFit (env k) (codeOf Try.f87) = true := by kernel_rfl
theorem lps : (loopsIn (codeOf Try.f87)).map (fun d => findLoop (firstRegion d) (codeOf Try.f87)) = (loopsIn (codeOf Try.f87)).map some := by kernel_rfl
theorem hf : Try.prog.funcs[87]? = some Try.f87 := by kernel_rfl
theorem hb : Try.f87.body = some (codeOf Try.f87) := by kernel_rfl
theorem hn : (Try.f87.name == "runtime.NumGoroutine") = false := by kernel_rfl
theorem hJ (k : Nat) : ∀ C : Ctx, C.P = Try.prog → ∀ r, InlOk C (J k) r := fun C hC r => noInl_ok
theorem sound (k : Nat) : Sound Try.prog 87 (entry k) := func_sound (E := env k) (by kernel_rfl) (by kernel_rfl) (by kernel_rfl) (by kernel_rfl) tbl_nil hf hb hn (fit k) (loops_all lps) (hJ k) (loops k) (eq k)
end bits_Len64

namespace bits_Len
def entry (k : Nat) : Entry := ⟨[.ro (.int .u64)], [.own (.int .i64)], fun (a0, _) => f k a0⟩
def tbl (k : Nat) : List (Nat × Option Entry) := [(87, some (bits_Len64.entry k))]
abbrev R := Res [.own (.int .i64)] × Outs [.ro (.int .u64)]
def env (k : Nat) : Env := ⟨Try.prog, 8, AM.look none (tbl k), AM.look none []⟩
def L (k : Nat) (q : Nat) (s : St) (K : AExit → St → Option R) : Option R := none
def J (k : Nat) : Inl R := noInl
theorem eq (k : Nat) : ∀ a, aexec (env k) (J k) (L k) (codeOf Try.f75) (begSt [.ro (.int .u64)] a) (finK (env k) Try.f75 [.ro (.int .u64)] [.own (.int .i64)]) = (entry k).fn a := by intro a; kernel_rfl
theorem loops (k : Nat) : LoopsOk (env k) (J k) (L k) (codeOf Try.f75) := by
  intro c an hc han s K r h
  unfold L at h
  cases h
theorem fit (k : Nat) : codeFit (env k) (codeOf Try.f75) = true := by kernel_rfl
theorem lps : (loopsIn (codeOf Try.f75)).map (fun d => findLoop (firstRegion d) (codeOf Try.f75)) = (loopsIn (codeOf Try.f75)).map some := by kernel_rfl
theorem hf : Try.prog.funcs[75]? = some Try.f75 := by kernel_rfl
theorem hb : Try.f75.body = some (codeOf Try.f75) := by kernel_rfl
theorem hn : (Try.f75.name == "runtime.NumGoroutine") = false := by kernel_rfl
theorem hJ (k : Nat) : ∀ C : Ctx, C.P = Try.prog → ∀ r, InlOk C (J k) r := fun C hC r => noInl_ok
theorem sound (k : Nat) : Sound Try.prog 75 (entry k) := func_sound (E := env k) (by kernel_rfl) (by kernel_rfl) (by kernel_rfl) (by kernel_rfl) (tbl_cons (bits_Len64.sound k) tbl_nil) hf hb hn (fit k) (loops_all lps) (hJ k) (loops k) (eq k)
end bits_Len

namespace impl_potsOf
def entry (k : Nat) : Entry := ⟨[.ro (.sl 2 (.int .i64)), .ro (.sl 4 .bool)], [.own (.sl 49 (.pair (.int .i64) (.pair (.sl 2 (.int .i64)) .unit)))], fun (a0, (a1, _)) => f k a0 a1⟩
def tbl (k : Nat) : List (Nat × Option Entry) := [(57, some (impl_refunded.entry k)), (69, some (impl_liveSeats.entry k)), (75, some (bits_Len.entry k)), (83, some (cmp_Less_int64.entry k))]
abbrev R := Res [.own (.sl 49 (.pair (.int .i64) (.pair (.sl 2 (.int .i64)) .unit)))] × Outs [.ro (.sl 2 (.int .i64)), .ro (.sl 4 .bool)]
def env (k : Nat) : Env := ⟨Try.prog, 114, AM.look none (tbl k), AM.look none [(4, some ⟨[(0, .asis), (1, .asis), (5, .row 2 (.int .i64)), (20, .asis), (21, .asis), (22, .asis)], [(0, .asis), (1, .asis), (5, .asis)]⟩), (17, some ⟨[(0, .asis), (1, .asis), (8, .asis), (9, .asis), (11, .asis), (12, (.cel [none, some (2, (.int .i64))])), (42, .asis), (43, .asis), (44, .asis), (48, .asis), (49, .asis), (50, .asis)], [(0, .asis), (1, .asis), (8, .asis), (11, .asis), (12, .asis), (42, .asis), (43, .asis), (44, .asis)]⟩), (13, some ⟨[(0, .asis), (1, .asis), (8, .row 49 (.pair (.int .i64) (.pair (.sl 2 (.int .i64)) .unit))), (9, .asis), (42, .toval 2 (.int .i64)), (43, .asis), (44, .asis)], [(0, .asis), (8, .asis), (9, .asis)]⟩), (28, some ⟨[(8, .asis), (9, .asis), (92, .asis), (93, .asis), (94, .asis)], [(8, .asis)]⟩)]⟩
def sh4 : Shape := ⟨[(0, .ref 0), (1, .val (.sl 4 .bool)), (5, .ref 1), (20, .ref 2), (21, .val (.int .i64)), (22, .val (.int .i64))], [(0, .row 2 (.int .i64)), (1, .row 2 (.int .i64)), (2, .row 2 (.int .i64))], 3, []⟩
def osh4kx0 : Shape := ⟨[(0, .ref 0), (1, .val (.sl 4 .bool)), (5, .ref 1)], [(0, .row 2 (.int .i64)), (1, .row 2 (.int .i64))], 2, []⟩
def un4 : (List Bool) × Int × Int × (List Int) × (List Int) × (List Int) → sh4.V := fun (x1, x21, x22, y0, y1, y2) => (((), (x1, ((), ((), (x21, (x22, ())))))), (y0, (y1, (y2, ()))))
def fl4 : sh4.V → (List Bool) × Int × Int × (List Int) × (List Int) × (List Int) := fun ((_, (x1, (_, (_, (x21, (x22, _)))))), (y0, (y1, (y2, _)))) => (x1, x21, x22, y0, y1, y2)
def sh17 : Shape := ⟨[(0, .ref 0), (1, .val (.sl 4 .bool)), (8, .ref 1), (9, .val (.int .i64)), (11, .val (.int .i64)), (12, .pc 3 0), (42, .val (.sl 2 (.int .i64))), (43, .val (.int .i64)), (44, .val (.int .i64)), (48, .ref 0), (49, .val (.int .i64)), (50, .val (.int .i64))], [(0, .row 2 (.int .i64)), (1, .row 49 (.pair (.int .i64) (.pair (.sl 2 (.int .i64)) .unit))), (2, .row 2 (.int .i64)), (3, .cell [.val (.int .i64), .ref 2])], 4, []⟩
def osh17kx4 : Shape := ⟨[(0, .ref 0), (1, .val (.sl 4 .bool)), (8, .ref 1), (11, .val (.int .i64)), (12, .pc 3 0), (42, .val (.sl 2 (.int .i64))), (43, .val (.int .i64)), (44, .val (.int .i64))], [(0, .row 2 (.int .i64)), (1, .row 49 (.pair (.int .i64) (.pair (.sl 2 (.int .i64)) .unit))), (2, .row 2 (.int .i64)), (3, .cell [.val (.int .i64), .ref 2])], 4, []⟩
def un17 : (List Bool) × Int × Int × (List Int) × Int × Int × Int × Int × (List Int) × (List (Int × ((List Int) × Unit))) × (List Int) × Int → sh17.V := fun (x1, x9, x11, x42, x43, x44, x49, x50, y0, y1, y2, z3_0) => (((), (x1, ((), (x9, (x11, ((), (x42, (x43, (x44, ((), (x49, (x50, ())))))))))))), (y0, (y1, (y2, ((z3_0, ((), ())), ())))))
def fl17 : sh17.V → (List Bool) × Int × Int × (List Int) × Int × Int × Int × Int × (List Int) × (List (Int × ((List Int) × Unit))) × (List Int) × Int := fun ((_, (x1, (_, (x9, (x11, (_, (x42, (x43, (x44, (_, (x49, (x50, _)))))))))))), (y0, (y1, (y2, ((z3_0, (_, _)), _))))) => (x1, x9, x11, x42, x43, x44, x49, x50, y0, y1, y2, z3_0)
def sh13 : Shape := ⟨[(0, .ref 0), (1, .val (.sl 4 .bool)), (8, .ref 1), (9, .val (.int .i64)), (42, .val (.sl 2 (.int .i64))), (43, .val (.int .i64)), (44, .val (.int .i64))], [(0, .row 2 (.int .i64)), (1, .row 49 (.pair (.int .i64) (.pair (.sl 2 (.int .i64)) .unit)))], 2, []⟩
def osh13kx2 : Shape := ⟨[(0, .ref 0), (8, .ref 1), (9, .val (.int .i64))], [(0, .row 2 (.int .i64)), (1, .row 49 (.pair (.int .i64) (.pair (.sl 2 (.int .i64)) .unit)))], 2, []⟩
def un13 : (List Bool) × Int × (List Int) × Int × Int × (List Int) × (List (Int × ((List Int) × Unit))) → sh13.V := fun (x1, x9, x42, x43, x44, y0, y1) => (((), (x1, ((), (x9, (x42, (x43, (x44, ()))))))), (y0, (y1, ())))
def fl13 : sh13.V → (List Bool) × Int × (List Int) × Int × Int × (List Int) × (List (Int × ((List Int) × Unit))) := fun ((_, (x1, (_, (x9, (x42, (x43, (x44, _))))))), (y0, (y1, _))) => (x1, x9, x42, x43, x44, y0, y1)
def sh28 : Shape := ⟨[(8, .ref 0), (9, .val (.int .i64)), (92, .ref 1), (93, .val (.int .i64)), (94, .val (.int .i64))], [(0, .row 49 (.pair (.int .i64) (.pair (.sl 2 (.int .i64)) .unit))), (1, .row 2 (.int .i64))], 2, []⟩
def osh28kx6 : Shape := ⟨[(8, .ref 0)], [(0, .row 49 (.pair (.int .i64) (.pair (.sl 2 (.int .i64)) .unit)))], 1, []⟩
def un28 : Int × Int × Int × (List (Int × ((List Int) × Unit))) × (List Int) → sh28.V := fun (x9, x93, x94, y0, y1) => (((), (x9, ((), (x93, (x94, ()))))), (y0, (y1, ())))
def fl28 : sh28.V → Int × Int × Int × (List (Int × ((List Int) × Unit))) × (List Int) := fun ((_, (x9, (_, (x93, (x94, _))))), (y0, (y1, _))) => (x9, x93, x94, y0, y1)
def L (k : Nat) (q : Nat) (s : St) (K : AExit → St → Option R) : Option R := bif Nat.beq q 4 then (match sh4.dec s with | some v => l4 (R := R) k k (fl4 v) (fun (x1, y0, y1) => K (.exit 0) (osh4kx0.enc (((), (x1, ((), ()))), (y0, (y1, ()))))) | none => none) else (bif Nat.beq q 17 then (match sh17.dec s with | some v => l17 (R := R) k k (fl17 v) (fun (x1, x11, x42, x43, x44, y0, y1, y2, z3_0) => K (.exit 4) (osh17kx4.enc (((), (x1, ((), (x11, ((), (x42, (x43, (x44, ())))))))), (y0, (y1, (y2, ((z3_0, ((), ())), ()))))))) | none => none) else (bif Nat.beq q 13 then (match sh13.dec s with | some v => l13 (R := R) k k (fl13 v) (fun (x9, y0, y1) => K (.exit 2) (osh13kx2.enc (((), ((), (x9, ()))), (y0, (y1, ()))))) | none => none) else (bif Nat.beq q 28 then (match sh28.dec s with | some v => l28 (R := R) k k (fl28 v) (fun y0 => K (.exit 6) (osh28kx6.enc (((), ()), (y0, ())))) | none => none) else (none))))
def i9001_env (k : Nat) : Env := ⟨Try.prog, 11, AM.look none (tbl k), AM.look none []⟩
def i9001_L (k : Nat) (q : Nat) (s : St) (K : AExit → St → Option R) : Option R := none
def i9001_i1005_env (k : Nat) : Env := ⟨Try.prog, 134, AM.look none (tbl k), AM.look none [(2, some ⟨[(0, .asis), (1, .asis), (2, .asis), (3, .asis), (8, .asis), (9, .asis), (4096, .asis), (4097, .asis), (4098, .asis)], [(4096, .asis), (4097, .asis), (4098, .asis)]⟩)]⟩
def shi9001_i1005_2 : Shape := ⟨[(0, .ref 0), (1, .val (.int .i64)), (2, .val (.int .i64)), (3, .val (.int .i64)), (8, .val .bool), (9, .val .bool), (4096, .ref 1), (4097, .val (.sl 4 .bool)), (4098, .ref 0)], [(0, .row 2 (.int .i64)), (1, .row 2 (.int .i64))], 2, []⟩
def oshi9001_i1005_2kr : Shape := ⟨[(4096, .ref 0), (4097, .val (.sl 4 .bool)), (4098, .ref 1)], [(0, .row 2 (.int .i64)), (1, .row 2 (.int .i64))], 2, []⟩
def uni9001_i1005_2 : Int × Int × Int × Bool × Bool × (List Bool) × (List Int) × (List Int) → shi9001_i1005_2.V := fun (x1, x2, x3, x8, x9, x4097, y0, y1) => (((), (x1, (x2, (x3, (x8, (x9, ((), (x4097, ((), ()))))))))), (y0, (y1, ())))
def fli9001_i1005_2 : shi9001_i1005_2.V → Int × Int × Int × Bool × Bool × (List Bool) × (List Int) × (List Int) := fun ((_, (x1, (x2, (x3, (x8, (x9, (_, (x4097, (_, _))))))))), (y0, (y1, _))) => (x1, x2, x3, x8, x9, x4097, y0, y1)
def i9001_i1005_L (k : Nat) (q : Nat) (s : St) (K : AExit → St → Option R) : Option R := bif Nat.beq q 2 then (match shi9001_i1005_2.dec s with | some v => i9001_i1005_l2 (R := R) k k (fli9001_i1005_2 v) (fun (x4097, y0, y1) => K .ret (oshi9001_i1005_2kr.enc (((), (x4097, ((), ()))), (y0, (y1, ()))))) | none => none) else (none)
def i9001_i1005_i4003_env (k : Nat) : Env := ⟨Try.prog, 49, AM.look none (tbl k), AM.look none [(4, some ⟨[(0, .asis), (1, .asis), (2, .asis), (6, .asis), (7, .asis), (4096, .asis), (4097, .asis), (4098, .asis)], [(0, .asis), (1, .asis), (2, .asis), (6, .asis), (4096, .asis), (4097, .asis), (4098, .asis)]⟩), (1, some ⟨[(0, .asis), (1, .asis), (2, .asis), (6, .asis), (4096, .asis), (4097, .asis), (4098, .asis)], [(4096, .asis), (4097, .asis), (4098, .asis)]⟩)]⟩
def shi9001_i1005_i4003_4 : Shape := ⟨[(0, .ref 0), (1, .val (.int .i64)), (2, .val (.int .i64)), (6, .val (.int .i64)), (7, .val (.int .i64)), (4096, .ref 1), (4097, .val (.sl 4 .bool)), (4098, .ref 0)], [(0, .row 2 (.int .i64)), (1, .row 2 (.int .i64))], 2, []⟩
def oshi9001_i1005_i4003_4kx2 : Shape := ⟨[(0, .ref 0), (1, .val (.int .i64)), (2, .val (.int .i64)), (6, .val (.int .i64)), (4096, .ref 1), (4097, .val (.sl 4 .bool)), (4098, .ref 0)], [(0, .row 2 (.int .i64)), (1, .row 2 (.int .i64))], 2, []⟩
def uni9001_i1005_i4003_4 : Int × Int × Int × Int × (List Bool) × (List Int) × (List Int) → shi9001_i1005_i4003_4.V := fun (x1, x2, x6, x7, x4097, y0, y1) => (((), (x1, (x2, (x6, (x7, ((), (x4097, ((), ())))))))), (y0, (y1, ())))
def fli9001_i1005_i4003_4 : shi9001_i1005_i4003_4.V → Int × Int × Int × Int × (List Bool) × (List Int) × (List Int) := fun ((_, (x1, (x2, (x6, (x7, (_, (x4097, (_, _)))))))), (y0, (y1, _))) => (x1, x2, x6, x7, x4097, y0, y1)
def shi9001_i1005_i4003_1 : Shape := ⟨[(0, .ref 0), (1, .val (.int .i64)), (2, .val (.int .i64)), (6, .val (.int .i64)), (4096, .ref 1), (4097, .val (.sl 4 .bool)), (4098, .ref 0)], [(0, .row 2 (.int .i64)), (1, .row 2 (.int .i64))], 2, []⟩
def oshi9001_i1005_i4003_1kx0 : Shape := ⟨[(4096, .ref 0), (4097, .val (.sl 4 .bool)), (4098, .ref 1)], [(0, .row 2 (.int .i64)), (1, .row 2 (.int .i64))], 2, []⟩
def uni9001_i1005_i4003_1 : Int × Int × Int × (List Bool) × (List Int) × (List Int) → shi9001_i1005_i4003_1.V := fun (x1, x2, x6, x4097, y0, y1) => (((), (x1, (x2, (x6, ((), (x4097, ((), ()))))))), (y0, (y1, ())))
def fli9001_i1005_i4003_1 : shi9001_i1005_i4003_1.V → Int × Int × Int × (List Bool) × (List Int) × (List Int) := fun ((_, (x1, (x2, (x6, (_, (x4097, (_, _))))))), (y0, (y1, _))) => (x1, x2, x6, x4097, y0, y1)
def i9001_i1005_i4003_L (k : Nat) (q : Nat) (s : St) (K : AExit → St → Option R) : Option R := bif Nat.beq q 4 then (match shi9001_i1005_i4003_4.dec s with | some v => i9001_i1005_i4003_l4 (R := R) k k (fli9001_i1005_i4003_4 v) (fun (x1, x2, x6, x4097, y0, y1) => K (.exit 2) (oshi9001_i1005_i4003_4kx2.enc (((), (x1, (x2, (x6, ((), (x4097, ((), ()))))))), (y0, (y1, ()))))) | none => none) else (bif Nat.beq q 1 then (match shi9001_i1005_i4003_1.dec s with | some v => i9001_i1005_i4003_l1 (R := R) k k (fli9001_i1005_i4003_1 v) (fun (x4097, y0, y1) => K (.exit 0) (oshi9001_i1005_i4003_1kx0.enc (((), (x4097, ((), ()))), (y0, (y1, ()))))) | none => none) else (none))
def i12001_env (k : Nat) : Env := ⟨Try.prog, 61, AM.look none (tbl k), AM.look none [(9, some ⟨[(0, .asis), (3, .asis), (4, .asis), (5, .asis), (4096, .asis), (4097, .asis), (4098, .asis), (4099, .asis)], [(0, .asis), (3, .asis), (4096, .asis), (4097, .asis), (4098, .asis), (4099, .asis)]⟩), (4, some ⟨[(0, .asis), (3, .asis), (4096, .asis), (4097, .asis), (4098, .asis), (4099, .asis)], [(0, .asis), (2, .asis), (4096, .asis), (4097, .asis), (4098, .asis), (4099, .asis)]⟩)]⟩
def shi12001_9 : Shape := ⟨[(0, .ref 0), (3, .val (.int .i64)), (4, .part 0), (5, .val (.int .i64)), (4096, .ref 1), (4097, .val (.sl 4 .bool)), (4098, .nils), (4099, .val (.int .i64))], [(0, .row 2 (.int .i64)), (1, .row 2 (.int .i64))], 2, []⟩
def oshi12001_9kx2 : Shape := ⟨[(0, .ref 0), (3, .val (.int .i64)), (4096, .ref 1), (4097, .val (.sl 4 .bool)), (4098, .nils), (4099, .val (.int .i64))], [(0, .row 2 (.int .i64)), (1, .row 2 (.int .i64))], 2, []⟩
def uni12001_9 : Int × Nat × Nat × Int × (List Bool) × Int × (List Int) × (List Int) → shi12001_9.V := fun (x3, x4o, x4n, x5, x4097, x4099, y0, y1) => (((), (x3, ((x4o, x4n), (x5, ((), (x4097, ((), (x4099, ())))))))), (y0, (y1, ())))
def fli12001_9 : shi12001_9.V → Int × Nat × Nat × Int × (List Bool) × Int × (List Int) × (List Int) := fun ((_, (x3, ((x4o, x4n), (x5, (_, (x4097, (_, (x4099, _)))))))), (y0, (y1, _))) => (x3, x4o, x4n, x5, x4097, x4099, y0, y1)
def shi12001_4 : Shape := ⟨[(0, .ref 0), (3, .val (.int .i64)), (4096, .ref 1), (4097, .val (.sl 4 .bool)), (4098, .nils), (4099, .val (.int .i64))], [(0, .row 2 (.int .i64)), (1, .row 2 (.int .i64))], 2, []⟩
def oshi12001_4kx0 : Shape := ⟨[(0, .ref 0), (2, .undef), (4096, .ref 1), (4097, .val (.sl 4 .bool)), (4098, .nils), (4099, .val (.int .i64))], [(0, .row 2 (.int .i64)), (1, .row 2 (.int .i64))], 2, []⟩
def oshi12001_4kr : Shape := ⟨[(0, .ref 0), (2, .part 0), (4096, .ref 1), (4097, .val (.sl 4 .bool)), (4098, .nils), (4099, .val (.int .i64))], [(0, .row 2 (.int .i64)), (1, .row 2 (.int .i64))], 2, []⟩
def uni12001_4 : Int × (List Bool) × Int × (List Int) × (List Int) → shi12001_4.V := fun (x3, x4097, x4099, y0, y1) => (((), (x3, ((), (x4097, ((), (x4099, ())))))), (y0, (y1, ())))
def fli12001_4 : shi12001_4.V → Int × (List Bool) × Int × (List Int) × (List Int) := fun ((_, (x3, (_, (x4097, (_, (x4099, _)))))), (y0, (y1, _))) => (x3, x4097, x4099, y0, y1)
def i12001_L (k : Nat) (q : Nat) (s : St) (K : AExit → St → Option R) : Option R := bif Nat.beq q 9 then (match shi12001_9.dec s with | some v => i12001_l9 (R := R) k k (fli12001_9 v) (fun (x3, x4097, x4099, y0, y1) => K (.exit 2) (oshi12001_9kx2.enc (((), (x3, ((), (x4097, ((), (x4099, ())))))), (y0, (y1, ()))))) | none => none) else (bif Nat.beq q 4 then (match shi12001_4.dec s with | some v => i12001_l4 (R := R) k k (fli12001_4 v) (fun (x4097, x4099, y0, y1) => K (.exit 0) (oshi12001_4kx0.enc (((), ((), ((), (x4097, ((), (x4099, ())))))), (y0, (y1, ()))))) (fun (x2o, x2n, x4097, x4099, y0, y1) => K .ret (oshi12001_4kr.enc (((), ((x2o, x2n), ((), (x4097, ((), (x4099, ())))))), (y0, (y1, ()))))) | none => none) else (none))
def i12001_J (k : Nat) : Inl R := noInl
def i9001_i1005_i4003_J (k : Nat) : Inl R := noInl
def i9001_i1005_J (k : Nat) : Inl R := (inlCons 4003 77 (inst (i9001_i1005_i4003_env k) (i9001_i1005_i4003_J k) (i9001_i1005_i4003_L k) Try.f77 []) noInl)
def i9001_J (k : Nat) : Inl R := (inlCons 1005 74 (inst (i9001_i1005_env k) (i9001_i1005_J k) (i9001_i1005_L k) Try.f74 []) noInl)
def J (k : Nat) : Inl R := (inlCons 9001 70 (inst (i9001_env k) (i9001_J k) (i9001_L k) Try.f70 [0, 1, 5]) (inlCons 12001 71 (inst (i12001_env k) (i12001_J k) (i12001_L k) Try.f71 [0, 1, 8, 9]) noInl))
theorem step4 (k n : Nat) (K : AExit → St → Option R) : ∀ v, aloop (aexec (env k) (J k) (L k) ((findLoop 4 (codeOf Try.f58)).getD .skip)) (normSt [(0, .asis), (1, .asis), (5, .row 2 (.int .i64)), (20, .asis), (21, .asis), (22, .asis)]) (normSt [(0, .asis), (1, .asis), (5, .asis)]) K (n + 1) (sh4.enc (un4 v)) = s4 (R := R) k (fun w => aloop (aexec (env k) (J k) (L k) ((findLoop 4 (codeOf Try.f58)).getD .skip)) (normSt [(0, .asis), (1, .asis), (5, .row 2 (.int .i64)), (20, .asis), (21, .asis), (22, .asis)]) (normSt [(0, .asis), (1, .asis), (5, .asis)]) K n (sh4.enc (un4 w))) (fun (x1, y0, y1) => K (.exit 0) (osh4kx0.enc (((), (x1, ((), ()))), (y0, (y1, ()))))) v := by intro v; kernel_rfl
theorem step17 (k n : Nat) (K : AExit → St → Option R) : ∀ v, aloop (aexec (env k) (J k) (L k) ((findLoop 17 (codeOf Try.f58)).getD .skip)) (normSt [(0, .asis), (1, .asis), (8, .asis), (9, .asis), (11, .asis), (12, (.cel [none, some (2, (.int .i64))])), (42, .asis), (43, .asis), (44, .asis), (48, .asis), (49, .asis), (50, .asis)]) (normSt [(0, .asis), (1, .asis), (8, .asis), (11, .asis), (12, .asis), (42, .asis), (43, .asis), (44, .asis)]) K (n + 1) (sh17.enc (un17 v)) = s17 (R := R) k (fun w => aloop (aexec (env k) (J k) (L k) ((findLoop 17 (codeOf Try.f58)).getD .skip)) (normSt [(0, .asis), (1, .asis), (8, .asis), (9, .asis), (11, .asis), (12, (.cel [none, some (2, (.int .i64))])), (42, .asis), (43, .asis), (44, .asis), (48, .asis), (49, .asis), (50, .asis)]) (normSt [(0, .asis), (1, .asis), (8, .asis), (11, .asis), (12, .asis), (42, .asis), (43, .asis), (44, .asis)]) K n (sh17.enc (un17 w))) (fun (x1, x11, x42, x43, x44, y0, y1, y2, z3_0) => K (.exit 4) (osh17kx4.enc (((), (x1, ((), (x11, ((), (x42, (x43, (x44, ())))))))), (y0, (y1, (y2, ((z3_0, ((), ())), ()))))))) v := by intro v; kernel_rfl
theorem step13 (k n : Nat) (K : AExit → St → Option R) : ∀ v, aloop (aexec (env k) (J k) (L k) ((findLoop 13 (codeOf Try.f58)).getD .skip)) (normSt [(0, .asis), (1, .asis), (8, .row 49 (.pair (.int .i64) (.pair (.sl 2 (.int .i64)) .unit))), (9, .asis), (42, .toval 2 (.int .i64)), (43, .asis), (44, .asis)]) (normSt [(0, .asis), (8, .asis), (9, .asis)]) K (n + 1) (sh13.enc (un13 v)) = s13 (R := R) k (fun w => aloop (aexec (env k) (J k) (L k) ((findLoop 13 (codeOf Try.f58)).getD .skip)) (normSt [(0, .asis), (1, .asis), (8, .row 49 (.pair (.int .i64) (.pair (.sl 2 (.int .i64)) .unit))), (9, .asis), (42, .toval 2 (.int .i64)), (43, .asis), (44, .asis)]) (normSt [(0, .asis), (8, .asis), (9, .asis)]) K n (sh13.enc (un13 w))) (fun (x9, y0, y1) => K (.exit 2) (osh13kx2.enc (((), ((), (x9, ()))), (y0, (y1, ()))))) v := by intro v; kernel_rfl
theorem step28 (k n : Nat) (K : AExit → St → Option R) : ∀ v, aloop (aexec (env k) (J k) (L k) ((findLoop 28 (codeOf Try.f58)).getD .skip)) (normSt [(8, .asis), (9, .asis), (92, .asis), (93, .asis), (94, .asis)]) (normSt [(8, .asis)]) K (n + 1) (sh28.enc (un28 v)) = s28 (R := R) k (fun w => aloop (aexec (env k) (J k) (L k) ((findLoop 28 (codeOf Try.f58)).getD .skip)) (normSt [(8, .asis), (9, .asis), (92, .asis), (93, .asis), (94, .asis)]) (normSt [(8, .asis)]) K n (sh28.enc (un28 w))) (fun y0 => K (.exit 6) (osh28kx6.enc (((), ()), (y0, ())))) v := by intro v; kernel_rfl
theorem stepi9001_i1005_2 (k n : Nat) (K : AExit → St → Option R) : ∀ v, aloop (aexec (i9001_i1005_env k) (i9001_i1005_J k) (i9001_i1005_L k) ((findLoop 2 (codeOf Try.f74)).getD .skip)) (normSt [(0, .asis), (1, .asis), (2, .asis), (3, .asis), (8, .asis), (9, .asis), (4096, .asis), (4097, .asis), (4098, .asis)]) (normSt [(4096, .asis), (4097, .asis), (4098, .asis)]) K (n + 1) (shi9001_i1005_2.enc (uni9001_i1005_2 v)) = i9001_i1005_s2 (R := R) k (fun w => aloop (aexec (i9001_i1005_env k) (i9001_i1005_J k) (i9001_i1005_L k) ((findLoop 2 (codeOf Try.f74)).getD .skip)) (normSt [(0, .asis), (1, .asis), (2, .asis), (3, .asis), (8, .asis), (9, .asis), (4096, .asis), (4097, .asis), (4098, .asis)]) (normSt [(4096, .asis), (4097, .asis), (4098, .asis)]) K n (shi9001_i1005_2.enc (uni9001_i1005_2 w))) (fun (x4097, y0, y1) => K .ret (oshi9001_i1005_2kr.enc (((), (x4097, ((), ()))), (y0, (y1, ()))))) v := by intro v; kernel_rfl
theorem stepi9001_i1005_i4003_4 (k n : Nat) (K : AExit → St → Option R) : ∀ v, aloop (aexec (i9001_i1005_i4003_env k) (i9001_i1005_i4003_J k) (i9001_i1005_i4003_L k) ((findLoop 4 (codeOf Try.f77)).getD .skip)) (normSt [(0, .asis), (1, .asis), (2, .asis), (6, .asis), (7, .asis), (4096, .asis), (4097, .asis), (4098, .asis)]) (normSt [(0, .asis), (1, .asis), (2, .asis), (6, .asis), (4096, .asis), (4097, .asis), (4098, .asis)]) K (n + 1) (shi9001_i1005_i4003_4.enc (uni9001_i1005_i4003_4 v)) = i9001_i1005_i4003_s4 (R := R) k (fun w => aloop (aexec (i9001_i1005_i4003_env k) (i9001_i1005_i4003_J k) (i9001_i1005_i4003_L k) ((findLoop 4 (codeOf Try.f77)).getD .skip)) (normSt [(0, .asis), (1, .asis), (2, .asis), (6, .asis), (7, .asis), (4096, .asis), (4097, .asis), (4098, .asis)]) (normSt [(0, .asis), (1, .asis), (2, .asis), (6, .asis), (4096, .asis), (4097, .asis), (4098, .asis)]) K n (shi9001_i1005_i4003_4.enc (uni9001_i1005_i4003_4 w))) (fun (x1, x2, x6, x4097, y0, y1) => K (.exit 2) (oshi9001_i1005_i4003_4kx2.enc (((), (x1, (x2, (x6, ((), (x4097, ((), ()))))))), (y0, (y1, ()))))) v := by intro v; kernel_rfl
theorem stepi9001_i1005_i4003_1 (k n : Nat) (K : AExit → St → Option R) : ∀ v, aloop (aexec (i9001_i1005_i4003_env k) (i9001_i1005_i4003_J k) (i9001_i1005_i4003_L k) ((findLoop 1 (codeOf Try.f77)).getD .skip)) (normSt [(0, .asis), (1, .asis), (2, .asis), (6, .asis), (4096, .asis), (4097, .asis), (4098, .asis)]) (normSt [(4096, .asis), (4097, .asis), (4098, .asis)]) K (n + 1) (shi9001_i1005_i4003_1.enc (uni9001_i1005_i4003_1 v)) = i9001_i1005_i4003_s1 (R := R) k (fun w => aloop (aexec (i9001_i1005_i4003_env k) (i9001_i1005_i4003_J k) (i9001_i1005_i4003_L k) ((findLoop 1 (codeOf Try.f77)).getD .skip)) (normSt [(0, .asis), (1, .asis), (2, .asis), (6, .asis), (4096, .asis), (4097, .asis), (4098, .asis)]) (normSt [(4096, .asis), (4097, .asis), (4098, .asis)]) K n (shi9001_i1005_i4003_1.enc (uni9001_i1005_i4003_1 w))) (fun (x4097, y0, y1) => K (.exit 0) (oshi9001_i1005_i4003_1kx0.enc (((), (x4097, ((), ()))), (y0, (y1, ()))))) v := by intro v; kernel_rfl
theorem stepi12001_9 (k n : Nat) (K : AExit → St → Option R) : ∀ v, aloop (aexec (i12001_env k) (i12001_J k) (i12001_L k) ((findLoop 9 (codeOf Try.f71)).getD .skip)) (normSt [(0, .asis), (3, .asis), (4, .asis), (5, .asis), (4096, .asis), (4097, .asis), (4098, .asis), (4099, .asis)]) (normSt [(0, .asis), (3, .asis), (4096, .asis), (4097, .asis), (4098, .asis), (4099, .asis)]) K (n + 1) (shi12001_9.enc (uni12001_9 v)) = i12001_s9 (R := R) k (fun w => aloop (aexec (i12001_env k) (i12001_J k) (i12001_L k) ((findLoop 9 (codeOf Try.f71)).getD .skip)) (normSt [(0, .asis), (3, .asis), (4, .asis), (5, .asis), (4096, .asis), (4097, .asis), (4098, .asis), (4099, .asis)]) (normSt [(0, .asis), (3, .asis), (4096, .asis), (4097, .asis), (4098, .asis), (4099, .asis)]) K n (shi12001_9.enc (uni12001_9 w))) (fun (x3, x4097, x4099, y0, y1) => K (.exit 2) (oshi12001_9kx2.enc (((), (x3, ((), (x4097, ((), (x4099, ())))))), (y0, (y1, ()))))) v := by intro v; kernel_rfl
theorem stepi12001_4 (k n : Nat) (K : AExit → St → Option R) : ∀ v, aloop (aexec (i12001_env k) (i12001_J k) (i12001_L k) ((findLoop 4 (codeOf Try.f71)).getD .skip)) (normSt [(0, .asis), (3, .asis), (4096, .asis), (4097, .asis), (4098, .asis), (4099, .asis)]) (normSt [(0, .asis), (2, .asis), (4096, .asis), (4097, .asis), (4098, .asis), (4099, .asis)]) K (n + 1) (shi12001_4.enc (uni12001_4 v)) = i12001_s4 (R := R) k (fun w => aloop (aexec (i12001_env k) (i12001_J k) (i12001_L k) ((findLoop 4 (codeOf Try.f71)).getD .skip)) (normSt [(0, .asis), (3, .asis), (4096, .asis), (4097, .asis), (4098, .asis), (4099, .asis)]) (normSt [(0, .asis), (2, .asis), (4096, .asis), (4097, .asis), (4098, .asis), (4099, .asis)]) K n (shi12001_4.enc (uni12001_4 w))) (fun (x4097, x4099, y0, y1) => K (.exit 0) (oshi12001_4kx0.enc (((), ((), ((), (x4097, ((), (x4099, ())))))), (y0, (y1, ()))))) (fun (x2o, x2n, x4097, x4099, y0, y1) => K .ret (oshi12001_4kr.enc (((), ((x2o, x2n), ((), (x4097, ((), (x4099, ())))))), (y0, (y1, ()))))) v := by intro v; kernel_rfl
theorem eq (k : Nat) : ∀ a, aexec (env k) (J k) (L k) (codeOf Try.f58) (begSt [.ro (.sl 2 (.int .i64)), .ro (.sl 4 .bool)] a) (finK (env k) Try.f58 [.ro (.sl 2 (.int .i64)), .ro (.sl 4 .bool)] [.own (.sl 49 (.pair (.int .i64) (.pair (.sl 2 (.int .i64)) .unit)))]) = (entry k).fn a := by intro a; kernel_rfl
theorem run4 (k : Nat) (K : AExit → St → Option R) : ∀ n v, aloop (aexec (env k) (J k) (L k) ((findLoop 4 (codeOf Try.f58)).getD .skip)) (normSt [(0, .asis), (1, .asis), (5, .row 2 (.int .i64)), (20, .asis), (21, .asis), (22, .asis)]) (normSt [(0, .asis), (1, .asis), (5, .asis)]) K n (sh4.enc (un4 v)) = l4 (R := R) k n v (fun (x1, y0, y1) => K (.exit 0) (osh4kx0.enc (((), (x1, ((), ()))), (y0, (y1, ()))))) := loop_eq (fun n v => aloop (aexec (env k) (J k) (L k) ((findLoop 4 (codeOf Try.f58)).getD .skip)) (normSt [(0, .asis), (1, .asis), (5, .row 2 (.int .i64)), (20, .asis), (21, .asis), (22, .asis)]) (normSt [(0, .asis), (1, .asis), (5, .asis)]) K n (sh4.enc (un4 v))) (fun n v => l4 (R := R) k n v (fun (x1, y0, y1) => K (.exit 0) (osh4kx0.enc (((), (x1, ((), ()))), (y0, (y1, ())))))) (fun X v => s4 (R := R) k X (fun (x1, y0, y1) => K (.exit 0) (osh4kx0.enc (((), (x1, ((), ()))), (y0, (y1, ()))))) v) (fun _ => rfl) (fun n v => step4 k n K v) (fun n v => rfl)
theorem run17 (k : Nat) (K : AExit → St → Option R) : ∀ n v, aloop (aexec (env k) (J k) (L k) ((findLoop 17 (codeOf Try.f58)).getD .skip)) (normSt [(0, .asis), (1, .asis), (8, .asis), (9, .asis), (11, .asis), (12, (.cel [none, some (2, (.int .i64))])), (42, .asis), (43, .asis), (44, .asis), (48, .asis), (49, .asis), (50, .asis)]) (normSt [(0, .asis), (1, .asis), (8, .asis), (11, .asis), (12, .asis), (42, .asis), (43, .asis), (44, .asis)]) K n (sh17.enc (un17 v)) = l17 (R := R) k n v (fun (x1, x11, x42, x43, x44, y0, y1, y2, z3_0) => K (.exit 4) (osh17kx4.enc (((), (x1, ((), (x11, ((), (x42, (x43, (x44, ())))))))), (y0, (y1, (y2, ((z3_0, ((), ())), ()))))))) := loop_eq (fun n v => aloop (aexec (env k) (J k) (L k) ((findLoop 17 (codeOf Try.f58)).getD .skip)) (normSt [(0, .asis), (1, .asis), (8, .asis), (9, .asis), (11, .asis), (12, (.cel [none, some (2, (.int .i64))])), (42, .asis), (43, .asis), (44, .asis), (48, .asis), (49, .asis), (50, .asis)]) (normSt [(0, .asis), (1, .asis), (8, .asis), (11, .asis), (12, .asis), (42, .asis), (43, .asis), (44, .asis)]) K n (sh17.enc (un17 v))) (fun n v => l17 (R := R) k n v (fun (x1, x11, x42, x43, x44, y0, y1, y2, z3_0) => K (.exit 4) (osh17kx4.enc (((), (x1, ((), (x11, ((), (x42, (x43, (x44, ())))))))), (y0, (y1, (y2, ((z3_0, ((), ())), ())))))))) (fun X v => s17 (R := R) k X (fun (x1, x11, x42, x43, x44, y0, y1, y2, z3_0) => K (.exit 4) (osh17kx4.enc (((), (x1, ((), (x11, ((), (x42, (x43, (x44, ())))))))), (y0, (y1, (y2, ((z3_0, ((), ())), ()))))))) v) (fun _ => rfl) (fun n v => step17 k n K v) (fun n v => rfl)
theorem run13 (k : Nat) (K : AExit → St → Option R) : ∀ n v, aloop (aexec (env k) (J k) (L k) ((findLoop 13 (codeOf Try.f58)).getD .skip)) (normSt [(0, .asis), (1, .asis), (8, .row 49 (.pair (.int .i64) (.pair (.sl 2 (.int .i64)) .unit))), (9, .asis), (42, .toval 2 (.int .i64)), (43, .asis), (44, .asis)]) (normSt [(0, .asis), (8, .asis), (9, .asis)]) K n (sh13.enc (un13 v)) = l13 (R := R) k n v (fun (x9, y0, y1) => K (.exit 2) (osh13kx2.enc (((), ((), (x9, ()))), (y0, (y1, ()))))) := loop_eq (fun n v => aloop (aexec (env k) (J k) (L k) ((findLoop 13 (codeOf Try.f58)).getD .skip)) (normSt [(0, .asis), (1, .asis), (8, .row 49 (.pair (.int .i64) (.pair (.sl 2 (.int .i64)) .unit))), (9, .asis), (42, .toval 2 (.int .i64)), (43, .asis), (44, .asis)]) (normSt [(0, .asis), (8, .asis), (9, .asis)]) K n (sh13.enc (un13 v))) (fun n v => l13 (R := R) k n v (fun (x9, y0, y1) => K (.exit 2) (osh13kx2.enc (((), ((), (x9, ()))), (y0, (y1, ())))))) (fun X v => s13 (R := R) k X (fun (x9, y0, y1) => K (.exit 2) (osh13kx2.enc (((), ((), (x9, ()))), (y0, (y1, ()))))) v) (fun _ => rfl) (fun n v => step13 k n K v) (fun n v => rfl)
theorem run28 (k : Nat) (K : AExit → St → Option R) : ∀ n v, aloop (aexec (env k) (J k) (L k) ((findLoop 28 (codeOf Try.f58)).getD .skip)) (normSt [(8, .asis), (9, .asis), (92, .asis), (93, .asis), (94, .asis)]) (normSt [(8, .asis)]) K n (sh28.enc (un28 v)) = l28 (R := R) k n v (fun y0 => K (.exit 6) (osh28kx6.enc (((), ()), (y0, ())))) := loop_eq (fun n v => aloop (aexec (env k) (J k) (L k) ((findLoop 28 (codeOf Try.f58)).getD .skip)) (normSt [(8, .asis), (9, .asis), (92, .asis), (93, .asis), (94, .asis)]) (normSt [(8, .asis)]) K n (sh28.enc (un28 v))) (fun n v => l28 (R := R) k n v (fun y0 => K (.exit 6) (osh28kx6.enc (((), ()), (y0, ()))))) (fun X v => s28 (R := R) k X (fun y0 => K (.exit 6) (osh28kx6.enc (((), ()), (y0, ())))) v) (fun _ => rfl) (fun n v => step28 k n K v) (fun n v => rfl)
theorem loops (k : Nat) : LoopsOk (env k) (J k) (L k) (codeOf Try.f58) := by
  intro c an hc han s K r h
  unfold L at h
  by_cases q4 : firstRegion c = 4
  · have h1 := key_eq q4 h
    rw [q4] at hc han
    have e2 : an = ⟨[(0, .asis), (1, .asis), (5, .row 2 (.int .i64)), (20, .asis), (21, .asis), (22, .asis)], [(0, .asis), (1, .asis), (5, .asis)]⟩ := (Option.some.inj (show some _ = some an from han)).symm
    have e1 : c = (findLoop 4 (codeOf Try.f58)).getD .skip := by rw [hc]; rfl
    cases hd : sh4.dec s with
    | none => rw [hd] at h1; cases h1
    | some v =>
      rw [hd] at h1
      refine ⟨k, ?_⟩
      rw [e1, e2, Shape.dec_enc _ _ _ hd]
      exact (run4 k K k (fl4 v)).trans h1
  have h := not_key q4 h
  by_cases q17 : firstRegion c = 17
  · have h1 := key_eq q17 h
    rw [q17] at hc han
    have e2 : an = ⟨[(0, .asis), (1, .asis), (8, .asis), (9, .asis), (11, .asis), (12, (.cel [none, some (2, (.int .i64))])), (42, .asis), (43, .asis), (44, .asis), (48, .asis), (49, .asis), (50, .asis)], [(0, .asis), (1, .asis), (8, .asis), (11, .asis), (12, .asis), (42, .asis), (43, .asis), (44, .asis)]⟩ := (Option.some.inj (show some _ = some an from han)).symm
    have e1 : c = (findLoop 17 (codeOf Try.f58)).getD .skip := by rw [hc]; rfl
    cases hd : sh17.dec s with
    | none => rw [hd] at h1; cases h1
    | some v =>
      rw [hd] at h1
      refine ⟨k, ?_⟩
      rw [e1, e2, Shape.dec_enc _ _ _ hd]
      exact (run17 k K k (fl17 v)).trans h1
  have h := not_key q17 h
  by_cases q13 : firstRegion c = 13
  · have h1 := key_eq q13 h
    rw [q13] at hc han
    have e2 : an = ⟨[(0, .asis), (1, .asis), (8, .row 49 (.pair (.int .i64) (.pair (.sl 2 (.int .i64)) .unit))), (9, .asis), (42, .toval 2 (.int .i64)), (43, .asis), (44, .asis)], [(0, .asis), (8, .asis), (9, .asis)]⟩ := (Option.some.inj (show some _ = some an from han)).symm
    have e1 : c = (findLoop 13 (codeOf Try.f58)).getD .skip := by rw [hc]; rfl
    cases hd : sh13.dec s with
    | none => rw [hd] at h1; cases h1
    | some v =>
      rw [hd] at h1
      refine ⟨k, ?_⟩
      rw [e1, e2, Shape.dec_enc _ _ _ hd]
      exact (run13 k K k (fl13 v)).trans h1
  have h := not_key q13 h
  by_cases q28 : firstRegion c = 28
  · have h1 := key_eq q28 h
    rw [q28] at hc han
    have e2 : an = ⟨[(8, .asis), (9, .asis), (92, .asis), (93, .asis), (94, .asis)], [(8, .asis)]⟩ := (Option.some.inj (show some _ = some an from han)).symm
    have e1 : c = (findLoop 28 (codeOf Try.f58)).getD .skip := by rw [hc]; rfl
    cases hd : sh28.dec s with
    | none => rw [hd] at h1; cases h1
    | some v =>
      rw [hd] at h1
      refine ⟨k, ?_⟩
      rw [e1, e2, Shape.dec_enc _ _ _ hd]
      exact (run28 k K k (fl28 v)).trans h1
  have h := not_key q28 h
  cases h
theorem i9001_loops (k : Nat) : LoopsOk (i9001_env k) (i9001_J k) (i9001_L k) (codeOf Try.f70) := by
  intro c an hc han s K r h
  unfold i9001_L at h
  cases h
theorem runi9001_i1005_2 (k : Nat) (K : AExit → St → Option R) : ∀ n v, aloop (aexec (i9001_i1005_env k) (i9001_i1005_J k) (i9001_i1005_L k) ((findLoop 2 (codeOf Try.f74)).getD .skip)) (normSt [(0, .asis), (1, .asis), (2, .asis), (3, .asis), (8, .asis), (9, .asis), (4096, .asis), (4097, .asis), (4098, .asis)]) (normSt [(4096, .asis), (4097, .asis), (4098, .asis)]) K n (shi9001_i1005_2.enc (uni9001_i1005_2 v)) = i9001_i1005_l2 (R := R) k n v (fun (x4097, y0, y1) => K .ret (oshi9001_i1005_2kr.enc (((), (x4097, ((), ()))), (y0, (y1, ()))))) := loop_eq (fun n v => aloop (aexec (i9001_i1005_env k) (i9001_i1005_J k) (i9001_i1005_L k) ((findLoop 2 (codeOf Try.f74)).getD .skip)) (normSt [(0, .asis), (1, .asis), (2, .asis), (3, .asis), (8, .asis), (9, .asis), (4096, .asis), (4097, .asis), (4098, .asis)]) (normSt [(4096, .asis), (4097, .asis), (4098, .asis)]) K n (shi9001_i1005_2.enc (uni9001_i1005_2 v))) (fun n v => i9001_i1005_l2 (R := R) k n v (fun (x4097, y0, y1) => K .ret (oshi9001_i1005_2kr.enc (((), (x4097, ((), ()))), (y0, (y1, ())))))) (fun X v => i9001_i1005_s2 (R := R) k X (fun (x4097, y0, y1) => K .ret (oshi9001_i1005_2kr.enc (((), (x4097, ((), ()))), (y0, (y1, ()))))) v) (fun _ => rfl) (fun n v => stepi9001_i1005_2 k n K v) (fun n v => rfl)
theorem i9001_i1005_loops (k : Nat) : LoopsOk (i9001_i1005_env k) (i9001_i1005_J k) (i9001_i1005_L k) (codeOf Try.f74) := by
  intro c an hc han s K r h
  unfold i9001_i1005_L at h
  by_cases q2 : firstRegion c = 2
  · have h1 := key_eq q2 h
    rw [q2] at hc han
    have e2 : an = ⟨[(0, .asis), (1, .asis), (2, .asis), (3, .asis), (8, .asis), (9, .asis), (4096, .asis), (4097, .asis), (4098, .asis)], [(4096, .asis), (4097, .asis), (4098, .asis)]⟩ := (Option.some.inj (show some _ = some an from han)).symm
    have e1 : c = (findLoop 2 (codeOf Try.f74)).getD .skip := by rw [hc]; rfl
    cases hd : shi9001_i1005_2.dec s with
    | none => rw [hd] at h1; cases h1
    | some v =>
      rw [hd] at h1
      refine ⟨k, ?_⟩
      rw [e1, e2, Shape.dec_enc _ _ _ hd]
      exact (runi9001_i1005_2 k K k (fli9001_i1005_2 v)).trans h1
  have h := not_key q2 h
  cases h
theorem runi9001_i1005_i4003_4 (k : Nat) (K : AExit → St → Option R) : ∀ n v, aloop (aexec (i9001_i1005_i4003_env k) (i9001_i1005_i4003_J k) (i9001_i1005_i4003_L k) ((findLoop 4 (codeOf Try.f77)).getD .skip)) (normSt [(0, .asis), (1, .asis), (2, .asis), (6, .asis), (7, .asis), (4096, .asis), (4097, .asis), (4098, .asis)]) (normSt [(0, .asis), (1, .asis), (2, .asis), (6, .asis), (4096, .asis), (4097, .asis), (4098, .asis)]) K n (shi9001_i1005_i4003_4.enc (uni9001_i1005_i4003_4 v)) = i9001_i1005_i4003_l4 (R := R) k n v (fun (x1, x2, x6, x4097, y0, y1) => K (.exit 2) (oshi9001_i1005_i4003_4kx2.enc (((), (x1, (x2, (x6, ((), (x4097, ((), ()))))))), (y0, (y1, ()))))) := loop_eq (fun n v => aloop (aexec (i9001_i1005_i4003_env k) (i9001_i1005_i4003_J k) (i9001_i1005_i4003_L k) ((findLoop 4 (codeOf Try.f77)).getD .skip)) (normSt [(0, .asis), (1, .asis), (2, .asis), (6, .asis), (7, .asis), (4096, .asis), (4097, .asis), (4098, .asis)]) (normSt [(0, .asis), (1, .asis), (2, .asis), (6, .asis), (4096, .asis), (4097, .asis), (4098, .asis)]) K n (shi9001_i1005_i4003_4.enc (uni9001_i1005_i4003_4 v))) (fun n v => i9001_i1005_i4003_l4 (R := R) k n v (fun (x1, x2, x6, x4097, y0, y1) => K (.exit 2) (oshi9001_i1005_i4003_4kx2.enc (((), (x1, (x2, (x6, ((), (x4097, ((), ()))))))), (y0, (y1, ())))))) (fun X v => i9001_i1005_i4003_s4 (R := R) k X (fun (x1, x2, x6, x4097, y0, y1) => K (.exit 2) (oshi9001_i1005_i4003_4kx2.enc (((), (x1, (x2, (x6, ((), (x4097, ((), ()))))))), (y0, (y1, ()))))) v) (fun _ => rfl) (fun n v => stepi9001_i1005_i4003_4 k n K v) (fun n v => rfl)
theorem runi9001_i1005_i4003_1 (k : Nat) (K : AExit → St → Option R) : ∀ n v, aloop (aexec (i9001_i1005_i4003_env k) (i9001_i1005_i4003_J k) (i9001_i1005_i4003_L k) ((findLoop 1 (codeOf Try.f77)).getD .skip)) (normSt [(0, .asis), (1, .asis), (2, .asis), (6, .asis), (4096, .asis), (4097, .asis), (4098, .asis)]) (normSt [(4096, .asis), (4097, .asis), (4098, .asis)]) K n (shi9001_i1005_i4003_1.enc (uni9001_i1005_i4003_1 v)) = i9001_i1005_i4003_l1 (R := R) k n v (fun (x4097, y0, y1) => K (.exit 0) (oshi9001_i1005_i4003_1kx0.enc (((), (x4097, ((), ()))), (y0, (y1, ()))))) := loop_eq (fun n v => aloop (aexec (i9001_i1005_i4003_env k) (i9001_i1005_i4003_J k) (i9001_i1005_i4003_L k) ((findLoop 1 (codeOf Try.f77)).getD .skip)) (normSt [(0, .asis), (1, .asis), (2, .asis), (6, .asis), (4096, .asis), (4097, .asis), (4098, .asis)]) (normSt [(4096, .asis), (4097, .asis), (4098, .asis)]) K n (shi9001_i1005_i4003_1.enc (uni9001_i1005_i4003_1 v))) (fun n v => i9001_i1005_i4003_l1 (R := R) k n v (fun (x4097, y0, y1) => K (.exit 0) (oshi9001_i1005_i4003_1kx0.enc (((), (x4097, ((), ()))), (y0, (y1, ())))))) (fun X v => i9001_i1005_i4003_s1 (R := R) k X (fun (x4097, y0, y1) => K (.exit 0) (oshi9001_i1005_i4003_1kx0.enc (((), (x4097, ((), ()))), (y0, (y1, ()))))) v) (fun _ => rfl) (fun n v => stepi9001_i1005_i4003_1 k n K v) (fun n v => rfl)
theorem i9001_i1005_i4003_loops (k : Nat) : LoopsOk (i9001_i1005_i4003_env k) (i9001_i1005_i4003_J k) (i9001_i1005_i4003_L k) (codeOf Try.f77) := by
  intro c an hc han s K r h
  unfold i9001_i1005_i4003_L at h
  by_cases q4 : firstRegion c = 4
  · have h1 := key_eq q4 h
    rw [q4] at hc han
    have e2 : an = ⟨[(0, .asis), (1, .asis), (2, .asis), (6, .asis), (7, .asis), (4096, .asis), (4097, .asis), (4098, .asis)], [(0, .asis), (1, .asis), (2, .asis), (6, .asis), (4096, .asis), (4097, .asis), (4098, .asis)]⟩ := (Option.some.inj (show some _ = some an from han)).symm
    have e1 : c = (findLoop 4 (codeOf Try.f77)).getD .skip := by rw [hc]; rfl
    cases hd : shi9001_i1005_i4003_4.dec s with
    | none => rw [hd] at h1; cases h1
    | some v =>
      rw [hd] at h1
      refine ⟨k, ?_⟩
      rw [e1, e2, Shape.dec_enc _ _ _ hd]
      exact (runi9001_i1005_i4003_4 k K k (fli9001_i1005_i4003_4 v)).trans h1
  have h := not_key q4 h
  by_cases q1 : firstRegion c = 1
  · have h1 := key_eq q1 h
    rw [q1] at hc han
    have e2 : an = ⟨[(0, .asis), (1, .asis), (2, .asis), (6, .asis), (4096, .asis), (4097, .asis), (4098, .asis)], [(4096, .asis), (4097, .asis), (4098, .asis)]⟩ := (Option.some.inj (show some _ = some an from han)).symm
    have e1 : c = (findLoop 1 (codeOf Try.f77)).getD .skip := by rw [hc]; rfl
    cases hd : shi9001_i1005_i4003_1.dec s with
    | none => rw [hd] at h1; cases h1
    | some v =>
      rw [hd] at h1
      refine ⟨k, ?_⟩
      rw [e1, e2, Shape.dec_enc _ _ _ hd]
      exact (runi9001_i1005_i4003_1 k K k (fli9001_i1005_i4003_1 v)).trans h1
  have h := not_key q1 h
  cases h
theorem runi12001_9 (k : Nat) (K : AExit → St → Option R) : ∀ n v, aloop (aexec (i12001_env k) (i12001_J k) (i12001_L k) ((findLoop 9 (codeOf Try.f71)).getD .skip)) (normSt [(0, .asis), (3, .asis), (4, .asis), (5, .asis), (4096, .asis), (4097, .asis), (4098, .asis), (4099, .asis)]) (normSt [(0, .asis), (3, .asis), (4096, .asis), (4097, .asis), (4098, .asis), (4099, .asis)]) K n (shi12001_9.enc (uni12001_9 v)) = i12001_l9 (R := R) k n v (fun (x3, x4097, x4099, y0, y1) => K (.exit 2) (oshi12001_9kx2.enc (((), (x3, ((), (x4097, ((), (x4099, ())))))), (y0, (y1, ()))))) := loop_eq (fun n v => aloop (aexec (i12001_env k) (i12001_J k) (i12001_L k) ((findLoop 9 (codeOf Try.f71)).getD .skip)) (normSt [(0, .asis), (3, .asis), (4, .asis), (5, .asis), (4096, .asis), (4097, .asis), (4098, .asis), (4099, .asis)]) (normSt [(0, .asis), (3, .asis), (4096, .asis), (4097, .asis), (4098, .asis), (4099, .asis)]) K n (shi12001_9.enc (uni12001_9 v))) (fun n v => i12001_l9 (R := R) k n v (fun (x3, x4097, x4099, y0, y1) => K (.exit 2) (oshi12001_9kx2.enc (((), (x3, ((), (x4097, ((), (x4099, ())))))), (y0, (y1, ())))))) (fun X v => i12001_s9 (R := R) k X (fun (x3, x4097, x4099, y0, y1) => K (.exit 2) (oshi12001_9kx2.enc (((), (x3, ((), (x4097, ((), (x4099, ())))))), (y0, (y1, ()))))) v) (fun _ => rfl) (fun n v => stepi12001_9 k n K v) (fun n v => rfl)
theorem runi12001_4 (k : Nat) (K : AExit → St → Option R) : ∀ n v, aloop (aexec (i12001_env k) (i12001_J k) (i12001_L k) ((findLoop 4 (codeOf Try.f71)).getD .skip)) (normSt [(0, .asis), (3, .asis), (4096, .asis), (4097, .asis), (4098, .asis), (4099, .asis)]) (normSt [(0, .asis), (2, .asis), (4096, .asis), (4097, .asis), (4098, .asis), (4099, .asis)]) K n (shi12001_4.enc (uni12001_4 v)) = i12001_l4 (R := R) k n v (fun (x4097, x4099, y0, y1) => K (.exit 0) (oshi12001_4kx0.enc (((), ((), ((), (x4097, ((), (x4099, ())))))), (y0, (y1, ()))))) (fun (x2o, x2n, x4097, x4099, y0, y1) => K .ret (oshi12001_4kr.enc (((), ((x2o, x2n), ((), (x4097, ((), (x4099, ())))))), (y0, (y1, ()))))) := loop_eq (fun n v => aloop (aexec (i12001_env k) (i12001_J k) (i12001_L k) ((findLoop 4 (codeOf Try.f71)).getD .skip)) (normSt [(0, .asis), (3, .asis), (4096, .asis), (4097, .asis), (4098, .asis), (4099, .asis)]) (normSt [(0, .asis), (2, .asis), (4096, .asis), (4097, .asis), (4098, .asis), (4099, .asis)]) K n (shi12001_4.enc (uni12001_4 v))) (fun n v => i12001_l4 (R := R) k n v (fun (x4097, x4099, y0, y1) => K (.exit 0) (oshi12001_4kx0.enc (((), ((), ((), (x4097, ((), (x4099, ())))))), (y0, (y1, ()))))) (fun (x2o, x2n, x4097, x4099, y0, y1) => K .ret (oshi12001_4kr.enc (((), ((x2o, x2n), ((), (x4097, ((), (x4099, ())))))), (y0, (y1, ())))))) (fun X v => i12001_s4 (R := R) k X (fun (x4097, x4099, y0, y1) => K (.exit 0) (oshi12001_4kx0.enc (((), ((), ((), (x4097, ((), (x4099, ())))))), (y0, (y1, ()))))) (fun (x2o, x2n, x4097, x4099, y0, y1) => K .ret (oshi12001_4kr.enc (((), ((x2o, x2n), ((), (x4097, ((), (x4099, ())))))), (y0, (y1, ()))))) v) (fun _ => rfl) (fun n v => stepi12001_4 k n K v) (fun n v => rfl)
theorem i12001_loops (k : Nat) : LoopsOk (i12001_env k) (i12001_J k) (i12001_L k) (codeOf Try.f71) := by
  intro c an hc han s K r h
  unfold i12001_L at h
  by_cases q9 : firstRegion c = 9
  · have h1 := key_eq q9 h
    rw [q9] at hc han
    have e2 : an = ⟨[(0, .asis), (3, .asis), (4, .asis), (5, .asis), (4096, .asis), (4097, .asis), (4098, .asis), (4099, .asis)], [(0, .asis), (3, .asis), (4096, .asis), (4097, .asis), (4098, .asis), (4099, .asis)]⟩ := (Option.some.inj (show some _ = some an from han)).symm
    have e1 : c = (findLoop 9 (codeOf Try.f71)).getD .skip := by rw [hc]; rfl
    cases hd : shi12001_9.dec s with
    | none => rw [hd] at h1; cases h1
    | some v =>
      rw [hd] at h1
      refine ⟨k, ?_⟩
      rw [e1, e2, Shape.dec_enc _ _ _ hd]
      exact (runi12001_9 k K k (fli12001_9 v)).trans h1
  have h := not_key q9 h
  by_cases q4 : firstRegion c = 4
  · have h1 := key_eq q4 h
    rw [q4] at hc han
    have e2 : an = ⟨[(0, .asis), (3, .asis), (4096, .asis), (4097, .asis), (4098, .asis), (4099, .asis)], [(0, .asis), (2, .asis), (4096, .asis), (4097, .asis), (4098, .asis), (4099, .asis)]⟩ := (Option.some.inj (show some _ = some an from han)).symm
    have e1 : c = (findLoop 4 (codeOf Try.f71)).getD .skip := by rw [hc]; rfl
    cases hd : shi12001_4.dec s with
    | none => rw [hd] at h1; cases h1
    | some v =>
      rw [hd] at h1
      refine ⟨k, ?_⟩
      rw [e1, e2, Shape.dec_enc _ _ _ hd]
      exact (runi12001_4 k K k (fli12001_4 v)).trans h1
  have h := not_key q4 h
  cases h
theorem i12001_fit (k : Nat) : codeFit (i12001_env k) (codeOf Try.f71) = true := by kernel_rfl
theorem i12001_lps : (loopsIn (codeOf Try.f71)).map (fun d => findLoop (firstRegion d) (codeOf Try.f71)) = (loopsIn (codeOf Try.f71)).map some := by kernel_rfl
theorem i12001_hf : Try.prog.funcs[71]? = some Try.f71 := by kernel_rfl
theorem i12001_hb : Try.f71.body = some (codeOf Try.f71) := by kernel_rfl
theorem i12001_hn : (Try.f71.name == "runtime.NumGoroutine") = false := by kernel_rfl
theorem i12001_hJ (k : Nat) : ∀ C : Ctx, C.P = Try.prog → ∀ r, InlOk C (i12001_J k) r := fun C hC r => noInl_ok
theorem i12001_one (k : Nat) (C : Ctx) (hC : C.P = Try.prog) (r : R) : OneOk C 71 (inst (i12001_env k) (i12001_J k) (i12001_L k) Try.f71 [0, 1, 8, 9]) r := inst_ok hC (by kernel_rfl) (by kernel_rfl) (by kernel_rfl) (by kernel_rfl) (tbl_cons (impl_refunded.sound k) (tbl_cons (impl_liveSeats.sound k) (tbl_cons (bits_Len.sound k) (tbl_cons (cmp_Less_int64.sound k) tbl_nil)))) i12001_hf i12001_hb i12001_hn (i12001_fit k) (loops_all i12001_lps) (fun C hC => i12001_hJ k C hC r) (i12001_loops k)
theorem i9001_i1005_i4003_fit (k : Nat) : codeFit (i9001_i1005_i4003_env k) (codeOf Try.f77) = true := by kernel_rfl
theorem i9001_i1005_i4003_lps : (loopsIn (codeOf Try.f77)).map (fun d => findLoop (firstRegion d) (codeOf Try.f77)) = (loopsIn (codeOf Try.f77)).map some := by kernel_rfl
theorem i9001_i1005_i4003_hf : Try.prog.funcs[77]? = some Try.f77 := by kernel_rfl
theorem i9001_i1005_i4003_hb : Try.f77.body = some (codeOf Try.f77) := by kernel_rfl
theorem i9001_i1005_i4003_hn : (Try.f77.name == "runtime.NumGoroutine") = false := by kernel_rfl
theorem i9001_i1005_i4003_hJ (k : Nat) : ∀ C : Ctx, C.P = Try.prog → ∀ r, InlOk C (i9001_i1005_i4003_J k) r := fun C hC r => noInl_ok
theorem i9001_i1005_i4003_one (k : Nat) (C : Ctx) (hC : C.P = Try.prog) (r : R) : OneOk C 77 (inst (i9001_i1005_i4003_env k) (i9001_i1005_i4003_J k) (i9001_i1005_i4003_L k) Try.f77 []) r := inst_ok hC (by kernel_rfl) (by kernel_rfl) (by kernel_rfl) (by kernel_rfl) (tbl_cons (impl_refunded.sound k) (tbl_cons (impl_liveSeats.sound k) (tbl_cons (bits_Len.sound k) (tbl_cons (cmp_Less_int64.sound k) tbl_nil)))) i9001_i1005_i4003_hf i9001_i1005_i4003_hb i9001_i1005_i4003_hn (i9001_i1005_i4003_fit k) (loops_all i9001_i1005_i4003_lps) (fun C hC => i9001_i1005_i4003_hJ k C hC r) (i9001_i1005_i4003_loops k)
theorem i9001_i1005_fit (k : Nat) : codeFit (i9001_i1005_env k) (codeOf Try.f74) = true := by kernel_rfl
theorem i9001_i1005_lps : (loopsIn (codeOf Try.f74)).map (fun d => findLoop (firstRegion d) (codeOf Try.f74)) = (loopsIn (codeOf Try.f74)).map some := by kernel_rfl
theorem i9001_i1005_hf : Try.prog.funcs[74]? = some Try.f74 := by kernel_rfl
theorem i9001_i1005_hb : Try.f74.body = some (codeOf Try.f74) := by kernel_rfl
theorem i9001_i1005_hn : (Try.f74.name == "runtime.NumGoroutine") = false := by kernel_rfl
theorem i9001_i1005_hJ (k : Nat) : ∀ C : Ctx, C.P = Try.prog → ∀ r, InlOk C (i9001_i1005_J k) r := fun C hC r => (inlCons_ok (i9001_i1005_i4003_one k C hC r) noInl_ok)
theorem i9001_i1005_one (k : Nat) (C : Ctx) (hC : C.P = Try.prog) (r : R) : OneOk C 74 (inst (i9001_i1005_env k) (i9001_i1005_J k) (i9001_i1005_L k) Try.f74 []) r := inst_ok hC (by kernel_rfl) (by kernel_rfl) (by kernel_rfl) (by kernel_rfl) (tbl_cons (impl_refunded.sound k) (tbl_cons (impl_liveSeats.sound k) (tbl_cons (bits_Len.sound k) (tbl_cons (cmp_Less_int64.sound k) tbl_nil)))) i9001_i1005_hf i9001_i1005_hb i9001_i1005_hn (i9001_i1005_fit k) (loops_all i9001_i1005_lps) (fun C hC => i9001_i1005_hJ k C hC r) (i9001_i1005_loops k)
theorem i9001_fit (k : Nat) : codeFit (i9001_env k) (codeOf Try.f70) = true := by kernel_rfl
theorem i9001_lps : (loopsIn (codeOf Try.f70)).map (fun d => findLoop (firstRegion d) (codeOf Try.f70)) = (loopsIn (codeOf Try.f70)).map some := by kernel_rfl
theorem i9001_hf : Try.prog.funcs[70]? = some Try.f70 := by kernel_rfl
theorem i9001_hb : Try.f70.body = some (codeOf Try.f70) := by kernel_rfl
theorem i9001_hn : (Try.f70.name == "runtime.NumGoroutine") = false := by kernel_rfl
theorem i9001_hJ (k : Nat) : ∀ C : Ctx, C.P = Try.prog → ∀ r, InlOk C (i9001_J k) r := fun C hC r => (inlCons_ok (i9001_i1005_one k C hC r) noInl_ok)
theorem i9001_one (k : Nat) (C : Ctx) (hC : C.P = Try.prog) (r : R) : OneOk C 70 (inst (i9001_env k) (i9001_J k) (i9001_L k) Try.f70 [0, 1, 5]) r := inst_ok hC (by kernel_rfl) (by kernel_rfl) (by kernel_rfl) (by kernel_rfl) (tbl_cons (impl_refunded.sound k) (tbl_cons (impl_liveSeats.sound k) (tbl_cons (bits_Len.sound k) (tbl_cons (cmp_Less_int64.sound k) tbl_nil)))) i9001_hf i9001_hb i9001_hn (i9001_fit k) (loops_all i9001_lps) (fun C hC => i9001_hJ k C hC r) (i9001_loops k)
theorem fit (k : Nat) : codeFit (env k) (codeOf Try.f58) = true := by kernel_rfl
theorem lps : (loopsIn (codeOf Try.f58)).map (fun d => findLoop (firstRegion d) (codeOf Try.f58)) = (loopsIn (codeOf Try.f58)).map some := by kernel_rfl
theorem hf : Try.prog.funcs[58]? = some Try.f58 := by kernel_rfl
theorem hb : Try.f58.body = some (codeOf Try.f58) := by kernel_rfl
theorem hn : (Try.f58.name == "runtime.NumGoroutine") = false := by kernel_rfl
theorem hJ (k : Nat) : ∀ C : Ctx, C.P = Try.prog → ∀ r, InlOk C (J k) r := fun C hC r => (inlCons_ok (i9001_one k C hC r) (inlCons_ok (i12001_one k C hC r) noInl_ok))
theorem sound (k : Nat) : Sound Try.prog 58 (entry k) := func_sound (E := env k) (by kernel_rfl) (by kernel_rfl) (by kernel_rfl) (by kernel_rfl) (tbl_cons (impl_refunded.sound k) (tbl_cons (impl_liveSeats.sound k) (tbl_cons (bits_Len.sound k) (tbl_cons (cmp_Less_int64.sound k) tbl_nil)))) hf hb hn (fit k) (loops_all lps) (hJ k) (loops k) (eq k)
end impl_potsOf

namespace impl_CountPots
def entry (k : Nat) : Entry := ⟨[.ro (.sl 2 (.int .i64)), .ro (.sl 4 .bool)], [.own (.int .i64), .own (.int .i64)], fun (a0, (a1, _)) => f k a0 a1⟩
def tbl (k : Nat) : List (Nat × Option Entry) := [(16, some (impl_ArePayments.entry k)), (58, some (impl_potsOf.entry k))]
abbrev R := Res [.own (.int .i64), .own (.int .i64)] × Outs [.ro (.sl 2 (.int .i64)), .ro (.sl 4 .bool)]
def env (k : Nat) : Env := ⟨Try.prog, 14, AM.look none (tbl k), AM.look none []⟩
def L (k : Nat) (q : Nat) (s : St) (K : AExit → St → Option R) : Option R := none
def J (k : Nat) : Inl R := noInl
theorem eq (k : Nat) : ∀ a, aexec (env k) (J k) (L k) (codeOf Try.f29) (begSt [.ro (.sl 2 (.int .i64)), .ro (.sl 4 .bool)] a) (finK (env k) Try.f29 [.ro (.sl 2 (.int .i64)), .ro (.sl 4 .bool)] [.own (.int .i64), .own (.int .i64)]) = (entry k).fn a := by intro a; kernel_rfl
theorem loops (k : Nat) : LoopsOk (env k) (J k) (L k) (codeOf Try.f29) := by
  intro c an hc han s K r h
  unfold L at h
  cases h
theorem fit (k : Nat) : codeFit (env k) (codeOf Try.f29) = true := by kernel_rfl
theorem lps : (loopsIn (codeOf Try.f29)).map (fun d => findLoop (firstRegion d) (codeOf Try.f29)) = (loopsIn (codeOf Try.f29)).map some := by kernel_rfl
theorem hf : Try.prog.funcs[29]? = some Try.f29 := by kernel_rfl
theorem hb : Try.f29.body = some (codeOf Try.f29) := by kernel_rfl
theorem hn : (Try.f29.name == "runtime.NumGoroutine") = false := by kernel_rfl
theorem hJ (k : Nat) : ∀ C : Ctx, C.P = Try.prog → ∀ r, InlOk C (J k) r := fun C hC r => noInl_ok
theorem sound (k : Nat) : Sound Try.prog 29 (entry k) := func_sound (E := env k) (by kernel_rfl) (by kernel_rfl) (by kernel_rfl) (by kernel_rfl) (tbl_cons (impl_ArePayments.sound k) (tbl_cons (impl_potsOf.sound k) tbl_nil)) hf hb hn (fit k) (loops_all lps) (hJ k) (loops k) (eq k)
end impl_CountPots

namespace spec_l01Has
def entry (k : Nat) : Entry := ⟨[.ro (.sl 2 (.int .i64)), .ro (.int .i64)], [.own .bool], fun (a0, (a1, _)) => f k a0 a1⟩
def tbl (k : Nat) : List (Nat × Option Entry) := []
abbrev R := Res [.own .bool] × Outs [.ro (.sl 2 (.int .i64)), .ro (.int .i64)]
def env (k : Nat) : Env := ⟨Try.prog, 18, AM.look none (tbl k), AM.look none [(2, some ⟨[(0, .asis), (1, .asis), (5, .asis)], [(4, .asis)]⟩)]⟩
def sh2 : Shape := ⟨[(0, .val (.sl 2 (.int .i64))), (1, .val (.int .i64)), (5, .val (.int .i64))], [], 0, []⟩
def osh2kx0 : Shape := ⟨[(4, .undef)], [], 0, []⟩
def osh2kr : Shape := ⟨[(4, .val .bool)], [], 0, []⟩
def un2 : (List Int) × Int × Int → sh2.V := fun (x0, x1, x5) => ((x0, (x1, (x5, ()))), ())
def fl2 : sh2.V → (List Int) × Int × Int := fun ((x0, (x1, (x5, _))), _) => (x0, x1, x5)
def L (k : Nat) (q : Nat) (s : St) (K : AExit → St → Option R) : Option R := bif Nat.beq q 2 then (match sh2.dec s with | some v => l2 (R := R) k k (fl2 v) (fun (_ : Unit) => K (.exit 0) (osh2kx0.enc (((), ()), ()))) (fun x4 => K .ret (osh2kr.enc ((x4, ()), ()))) | none => none) else (none)
def J (k : Nat) : Inl R := noInl
theorem step2 (k n : Nat) (K : AExit → St → Option R) : ∀ v, aloop (aexec (env k) (J k) (L k) ((findLoop 2 (codeOf Try.f59)).getD .skip)) (normSt [(0, .asis), (1, .asis), (5, .asis)]) (normSt [(4, .asis)]) K (n + 1) (sh2.enc (un2 v)) = s2 (R := R) k (fun w => aloop (aexec (env k) (J k) (L k) ((findLoop 2 (codeOf Try.f59)).getD .skip)) (normSt [(0, .asis), (1, .asis), (5, .asis)]) (normSt [(4, .asis)]) K n (sh2.enc (un2 w))) (fun (_ : Unit) => K (.exit 0) (osh2kx0.enc (((), ()), ()))) (fun x4 => K .ret (osh2kr.enc ((x4, ()), ()))) v := by intro v; kernel_rfl
theorem eq (k : Nat) : ∀ a, aexec (env k) (J k) (L k) (codeOf Try.f59) (begSt [.ro (.sl 2 (.int .i64)), .ro (.int .i64)] a) (finK (env k) Try.f59 [.ro (.sl 2 (.int .i64)), .ro (.int .i64)] [.own .bool]) = (entry k).fn a := by intro a; kernel_rfl
theorem run2 (k : Nat) (K : AExit → St → Option R) : ∀ n v, aloop (aexec (env k) (J k) (L k) ((findLoop 2 (codeOf Try.f59)).getD .skip)) (normSt [(0, .asis), (1, .asis), (5, .asis)]) (normSt [(4, .asis)]) K n (sh2.enc (un2 v)) = l2 (R := R) k n v (fun (_ : Unit) => K (.exit 0) (osh2kx0.enc (((), ()), ()))) (fun x4 => K .ret (osh2kr.enc ((x4, ()), ()))) := loop_eq (fun n v => aloop (aexec (env k) (J k) (L k) ((findLoop 2 (codeOf Try.f59)).getD .skip)) (normSt [(0, .asis), (1, .asis), (5, .asis)]) (normSt [(4, .asis)]) K n (sh2.enc (un2 v))) (fun n v => l2 (R := R) k n v (fun (_ : Unit) => K (.exit 0) (osh2kx0.enc (((), ()), ()))) (fun x4 => K .ret (osh2kr.enc ((x4, ()), ())))) (fun X v => s2 (R := R) k X (fun (_ : Unit) => K (.exit 0) (osh2kx0.enc (((), ()), ()))) (fun x4 => K .ret (osh2kr.enc ((x4, ()), ()))) v) (fun _ => rfl) (fun n v => step2 k n K v) (fun n v => rfl)
theorem loops (k : Nat) : LoopsOk (env k) (J k) (L k) (codeOf Try.f59) := by
  intro c an hc han s K r h
  unfold L at h
  by_cases q2 : firstRegion c = 2
  · have h1 := key_eq q2 h
    rw [q2] at hc han
    have e2 : an = ⟨[(0, .asis), (1, .asis), (5, .asis)], [(4, .asis)]⟩ := (Option.some.inj (show some _ = some an from han)).symm
    have e1 : c = (findLoop 2 (codeOf Try.f59)).getD .skip := by rw [hc]; rfl
    cases hd : sh2.dec s with
    | none => rw [hd] at h1; cases h1
    | some v =>
      rw [hd] at h1
      refine ⟨k, ?_⟩
      rw [e1, e2, Shape.dec_enc _ _ _ hd]
      exact (run2 k K k (fl2 v)).trans h1
  have h := not_key q2 h
  cases h
theorem fit (k : Nat) : codeFit (env k) (codeOf Try.f59) = true := by kernel_rfl
theorem lps : (loopsIn (codeOf Try.f59)).map (fun d => findLoop (firstRegion d) (codeOf Try.f59)) = (loopsIn (codeOf Try.f59)).map some := by kernel_rfl
theorem hf : Try.prog.funcs[59]? = some Try.f59 := by kernel_rfl
theorem hb : Try.f59.body = some (codeOf Try.f59) := by kernel_rfl
theorem hn : (Try.f59.name == "runtime.NumGoroutine") = false := by kernel_rfl
theorem hJ (k : Nat) : ∀ C : Ctx, C.P = Try.prog → ∀ r, InlOk C (J k) r := fun C hC r => noInl_ok
theorem sound (k : Nat) : Sound Try.prog 59 (entry k) := func_sound (E := env k) (by kernel_rfl) (by kernel_rfl) (by kernel_rfl) (by kernel_rfl) tbl_nil hf hb hn (fit k) (loops_all lps) (hJ k) (loops k) (eq k)
end spec_l01Has

namespace spec_l02Sorted
def entry (k : Nat) : Entry := ⟨[.ro (.sl 2 (.int .i64))], [.own (.sl 2 (.int .i64))], fun (a0, _) => f k a0⟩
def tbl (k : Nat) : List (Nat × Option Entry) := []
abbrev R := Res [.own (.sl 2 (.int .i64))] × Outs [.ro (.sl 2 (.int .i64))]
def env (k : Nat) : Env := ⟨Try.prog, 46, AM.look none (tbl k), AM.look none [(6, some ⟨[(0, .asis), (3, .asis), (4, .asis), (5, .asis)], [(0, .asis), (3, .asis), (4, .asis), (5, .asis)]⟩), (3, some ⟨[(0, .asis), (3, .asis), (4, .asis)], [(3, .asis)]⟩)]⟩
def sh6 : Shape := ⟨[(0, .val (.sl 2 (.int .i64))), (3, .ref 0), (4, .val (.int .i64)), (5, .val (.int .i64))], [(0, .row 2 (.int .i64))], 1, []⟩
def osh6kx2 : Shape := ⟨[(0, .val (.sl 2 (.int .i64))), (3, .ref 0), (4, .val (.int .i64)), (5, .val (.int .i64))], [(0, .row 2 (.int .i64))], 1, []⟩
def un6 : (List Int) × Int × Int × (List Int) → sh6.V := fun (x0, x4, x5, y0) => ((x0, ((), (x4, (x5, ())))), (y0, ()))
def fl6 : sh6.V → (List Int) × Int × Int × (List Int) := fun ((x0, (_, (x4, (x5, _)))), (y0, _)) => (x0, x4, x5, y0)
def sh3 : Shape := ⟨[(0, .val (.sl 2 (.int .i64))), (3, .ref 0), (4, .val (.int .i64))], [(0, .row 2 (.int .i64))], 1, []⟩
def osh3kx0 : Shape := ⟨[(3, .ref 0)], [(0, .row 2 (.int .i64))], 1, []⟩
def un3 : (List Int) × Int × (List Int) → sh3.V := fun (x0, x4, y0) => ((x0, ((), (x4, ()))), (y0, ()))
def fl3 : sh3.V → (List Int) × Int × (List Int) := fun ((x0, (_, (x4, _))), (y0, _)) => (x0, x4, y0)
def L (k : Nat) (q : Nat) (s : St) (K : AExit → St → Option R) : Option R := bif Nat.beq q 6 then (match sh6.dec s with | some v => l6 (R := R) k k (fl6 v) (fun (x0, x4, x5, y0) => K (.exit 2) (osh6kx2.enc ((x0, ((), (x4, (x5, ())))), (y0, ())))) | none => none) else (bif Nat.beq q 3 then (match sh3.dec s with | some v => l3 (R := R) k k (fl3 v) (fun y0 => K (.exit 0) (osh3kx0.enc (((), ()), (y0, ())))) | none => none) else (none))
def J (k : Nat) : Inl R := noInl
theorem step6 (k n : Nat) (K : AExit → St → Option R) : ∀ v, aloop (aexec (env k) (J k) (L k) ((findLoop 6 (codeOf Try.f76)).getD .skip)) (normSt [(0, .asis), (3, .asis), (4, .asis), (5, .asis)]) (normSt [(0, .asis), (3, .asis), (4, .asis), (5, .asis)]) K (n + 1) (sh6.enc (un6 v)) = s6 (R := R) k (fun w => aloop (aexec (env k) (J k) (L k) ((findLoop 6 (codeOf Try.f76)).getD .skip)) (normSt [(0, .asis), (3, .asis), (4, .asis), (5, .asis)]) (normSt [(0, .asis), (3, .asis), (4, .asis), (5, .asis)]) K n (sh6.enc (un6 w))) (fun (x0, x4, x5, y0) => K (.exit 2) (osh6kx2.enc ((x0, ((), (x4, (x5, ())))), (y0, ())))) v := by intro v; kernel_rfl
theorem step3 (k n : Nat) (K : AExit → St → Option R) : ∀ v, aloop (aexec (env k) (J k) (L k) ((findLoop 3 (codeOf Try.f76)).getD .skip)) (normSt [(0, .asis), (3, .asis), (4, .asis)]) (normSt [(3, .asis)]) K (n + 1) (sh3.enc (un3 v)) = s3 (R := R) k (fun w => aloop (aexec (env k) (J k) (L k) ((findLoop 3 (codeOf Try.f76)).getD .skip)) (normSt [(0, .asis), (3, .asis), (4, .asis)]) (normSt [(3, .asis)]) K n (sh3.enc (un3 w))) (fun y0 => K (.exit 0) (osh3kx0.enc (((), ()), (y0, ())))) v := by intro v; kernel_rfl
theorem eq (k : Nat) : ∀ a, aexec (env k) (J k) (L k) (codeOf Try.f76) (begSt [.ro (.sl 2 (.int .i64))] a) (finK (env k) Try.f76 [.ro (.sl 2 (.int .i64))] [.own (.sl 2 (.int .i64))]) = (entry k).fn a := by intro a; kernel_rfl
theorem run6 (k : Nat) (K : AExit → St → Option R) : ∀ n v, aloop (aexec (env k) (J k) (L k) ((findLoop 6 (codeOf Try.f76)).getD .skip)) (normSt [(0, .asis), (3, .asis), (4, .asis), (5, .asis)]) (normSt [(0, .asis), (3, .asis), (4, .asis), (5, .asis)]) K n (sh6.enc (un6 v)) = l6 (R := R) k n v (fun (x0, x4, x5, y0) => K (.exit 2) (osh6kx2.enc ((x0, ((), (x4, (x5, ())))), (y0, ())))) := loop_eq (fun n v => aloop (aexec (env k) (J k) (L k) ((findLoop 6 (codeOf Try.f76)).getD .skip)) (normSt [(0, .asis), (3, .asis), (4, .asis), (5, .asis)]) (normSt [(0, .asis), (3, .asis), (4, .asis), (5, .asis)]) K n (sh6.enc (un6 v))) (fun n v => l6 (R := R) k n v (fun (x0, x4, x5, y0) => K (.exit 2) (osh6kx2.enc ((x0, ((), (x4, (x5, ())))), (y0, ()))))) (fun X v => s6 (R := R) k X (fun (x0, x4, x5, y0) => K (.exit 2) (osh6kx2.enc ((x0, ((), (x4, (x5, ())))), (y0, ())))) v) (fun _ => rfl) (fun n v => step6 k n K v) (fun n v => rfl)
theorem run3 (k : Nat) (K : AExit → St → Option R) : ∀ n v, aloop (aexec (env k) (J k) (L k) ((findLoop 3 (codeOf Try.f76)).getD .skip)) (normSt [(0, .asis), (3, .asis), (4, .asis)]) (normSt [(3, .asis)]) K n (sh3.enc (un3 v)) = l3 (R := R) k n v (fun y0 => K (.exit 0) (osh3kx0.enc (((), ()), (y0, ())))) := loop_eq (fun n v => aloop (aexec (env k) (J k) (L k) ((findLoop 3 (codeOf Try.f76)).getD .skip)) (normSt [(0, .asis), (3, .asis), (4, .asis)]) (normSt [(3, .asis)]) K n (sh3.enc (un3 v))) (fun n v => l3 (R := R) k n v (fun y0 => K (.exit 0) (osh3kx0.enc (((), ()), (y0, ()))))) (fun X v => s3 (R := R) k X (fun y0 => K (.exit 0) (osh3kx0.enc (((), ()), (y0, ())))) v) (fun _ => rfl) (fun n v => step3 k n K v) (fun n v => rfl)
theorem loops (k : Nat) : LoopsOk (env k) (J k) (L k) (codeOf Try.f76) := by
  intro c an hc han s K r h
  unfold L at h
  by_cases q6 : firstRegion c = 6
  · have h1 := key_eq q6 h
    rw [q6] at hc han
    have e2 : an = ⟨[(0, .asis), (3, .asis), (4, .asis), (5, .asis)], [(0, .asis), (3, .asis), (4, .asis), (5, .asis)]⟩ := (Option.some.inj (show some _ = some an from han)).symm
    have e1 : c = (findLoop 6 (codeOf Try.f76)).getD .skip := by rw [hc]; rfl
    cases hd : sh6.dec s with
    | none => rw [hd] at h1; cases h1
    | some v =>
      rw [hd] at h1
      refine ⟨k, ?_⟩
      rw [e1, e2, Shape.dec_enc _ _ _ hd]
      exact (run6 k K k (fl6 v)).trans h1
  have h := not_key q6 h
  by_cases q3 : firstRegion c = 3
  · have h1 := key_eq q3 h
    rw [q3] at hc han
    have e2 : an = ⟨[(0, .asis), (3, .asis), (4, .asis)], [(3, .asis)]⟩ := (Option.some.inj (show some _ = some an from han)).symm
    have e1 : c = (findLoop 3 (codeOf Try.f76)).getD .skip := by rw [hc]; rfl
    cases hd : sh3.dec s with
    | none => rw [hd] at h1; cases h1
    | some v =>
      rw [hd] at h1
      refine ⟨k, ?_⟩
      rw [e1, e2, Shape.dec_enc _ _ _ hd]
      exact (run3 k K k (fl3 v)).trans h1
  have h := not_key q3 h
  cases h
theorem fit (k : Nat) : codeFit (env k) (codeOf Try.f76) = true := by kernel_rfl
theorem lps : (loopsIn (codeOf Try.f76)).map (fun d => findLoop (firstRegion d) (codeOf Try.f76)) = (loopsIn (codeOf Try.f76)).map some := by kernel_rfl
theorem hf : Try.prog.funcs[76]? = some Try.f76 := by kernel_rfl
theorem hb : Try.f76.body = some (codeOf Try.f76) := by kernel_rfl
theorem hn : (Try.f76.name == "runtime.NumGoroutine") = false := by kernel_rfl
theorem hJ (k : Nat) : ∀ C : Ctx, C.P = Try.prog → ∀ r, InlOk C (J k) r := fun C hC r => noInl_ok
theorem sound (k : Nat) : Sound Try.prog 76 (entry k) := func_sound (E := env k) (by kernel_rfl) (by kernel_rfl) (by kernel_rfl) (by kernel_rfl) tbl_nil hf hb hn (fit k) (loops_all lps) (hJ k) (loops k) (eq k)
end spec_l02Sorted

namespace spec_l12Levels
def entry (k : Nat) : Entry := ⟨[.ro (.sl 2 (.int .i64)), .ro (.sl 4 .bool)], [.own (.sl 2 (.int .i64))], fun (a0, (a1, _)) => f k a0 a1⟩
def tbl (k : Nat) : List (Nat × Option Entry) := [(59, some (spec_l01Has.entry k)), (76, some (spec_l02Sorted.entry k))]
abbrev R := Res [.own (.sl 2 (.int .i64))] × Outs [.ro (.sl 2 (.int .i64)), .ro (.sl 4 .bool)]
def env (k : Nat) : Env := ⟨Try.prog, 44, AM.look none (tbl k), AM.look none [(3, some ⟨[(0, .asis), (1, .asis), (5, .asis), (6, .asis)], [(5, .asis)]⟩)]⟩
def sh3 : Shape := ⟨[(0, .val (.sl 2 (.int .i64))), (1, .val (.sl 4 .bool)), (5, .ref 0), (6, .val (.int .i64))], [(0, .row 2 (.int .i64))], 1, []⟩
def osh3kx0 : Shape := ⟨[(5, .ref 0)], [(0, .row 2 (.int .i64))], 1, []⟩
def un3 : (List Int) × (List Bool) × Int × (List Int) → sh3.V := fun (x0, x1, x6, y0) => ((x0, (x1, ((), (x6, ())))), (y0, ()))
def fl3 : sh3.V → (List Int) × (List Bool) × Int × (List Int) := fun ((x0, (x1, (_, (x6, _)))), (y0, _)) => (x0, x1, x6, y0)
def L (k : Nat) (q : Nat) (s : St) (K : AExit → St → Option R) : Option R := bif Nat.beq q 3 then (match sh3.dec s with | some v => l3 (R := R) k k (fl3 v) (fun y0 => K (.exit 0) (osh3kx0.enc (((), ()), (y0, ())))) | none => none) else (none)
def J (k : Nat) : Inl R := noInl
theorem step3 (k n : Nat) (K : AExit → St → Option R) : ∀ v, aloop (aexec (env k) (J k) (L k) ((findLoop 3 (codeOf Try.f73)).getD .skip)) (normSt [(0, .asis), (1, .asis), (5, .asis), (6, .asis)]) (normSt [(5, .asis)]) K (n + 1) (sh3.enc (un3 v)) = s3 (R := R) k (fun w => aloop (aexec (env k) (J k) (L k) ((findLoop 3 (codeOf Try.f73)).getD .skip)) (normSt [(0, .asis), (1, .asis), (5, .asis), (6, .asis)]) (normSt [(5, .asis)]) K n (sh3.enc (un3 w))) (fun y0 => K (.exit 0) (osh3kx0.enc (((), ()), (y0, ())))) v := by intro v; kernel_rfl
theorem eq (k : Nat) : ∀ a, aexec (env k) (J k) (L k) (codeOf Try.f73) (begSt [.ro (.sl 2 (.int .i64)), .ro (.sl 4 .bool)] a) (finK (env k) Try.f73 [.ro (.sl 2 (.int .i64)), .ro (.sl 4 .bool)] [.own (.sl 2 (.int .i64))]) = (entry k).fn a := by intro a; kernel_rfl
theorem run3 (k : Nat) (K : AExit → St → Option R) : ∀ n v, aloop (aexec (env k) (J k) (L k) ((findLoop 3 (codeOf Try.f73)).getD .skip)) (normSt [(0, .asis), (1, .asis), (5, .asis), (6, .asis)]) (normSt [(5, .asis)]) K n (sh3.enc (un3 v)) = l3 (R := R) k n v (fun y0 => K (.exit 0) (osh3kx0.enc (((), ()), (y0, ())))) := loop_eq (fun n v => aloop (aexec (env k) (J k) (L k) ((findLoop 3 (codeOf Try.f73)).getD .skip)) (normSt [(0, .asis), (1, .asis), (5, .asis), (6, .asis)]) (normSt [(5, .asis)]) K n (sh3.enc (un3 v))) (fun n v => l3 (R := R) k n v (fun y0 => K (.exit 0) (osh3kx0.enc (((), ()), (y0, ()))))) (fun X v => s3 (R := R) k X (fun y0 => K (.exit 0) (osh3kx0.enc (((), ()), (y0, ())))) v) (fun _ => rfl) (fun n v => step3 k n K v) (fun n v => rfl)
theorem loops (k : Nat) : LoopsOk (env k) (J k) (L k) (codeOf Try.f73) := by
  intro c an hc han s K r h
  unfold L at h
  by_cases q3 : firstRegion c = 3
  · have h1 := key_eq q3 h
    rw [q3] at hc han
    have e2 : an = ⟨[(0, .asis), (1, .asis), (5, .asis), (6, .asis)], [(5, .asis)]⟩ := (Option.some.inj (show some _ = some an from han)).symm
    have e1 : c = (findLoop 3 (codeOf Try.f73)).getD .skip := by rw [hc]; rfl
    cases hd : sh3.dec s with
    | none => rw [hd] at h1; cases h1
    | some v =>
      rw [hd] at h1
      refine ⟨k, ?_⟩
      rw [e1, e2, Shape.dec_enc _ _ _ hd]
      exact (run3 k K k (fl3 v)).trans h1
  have h := not_key q3 h
  cases h
theorem fit (k : Nat) : codeFit (env k) (codeOf Try.f73) = true := by kernel_rfl
theorem lps : (loopsIn (codeOf Try.f73)).map (fun d => findLoop (firstRegion d) (codeOf Try.f73)) = (loopsIn (codeOf Try.f73)).map some := by kernel_rfl
theorem hf : Try.prog.funcs[73]? = some Try.f73 := by kernel_rfl
theorem hb : Try.f73.body = some (codeOf Try.f73) := by kernel_rfl
theorem hn : (Try.f73.name == "runtime.NumGoroutine") = false := by kernel_rfl
theorem hJ (k : Nat) : ∀ C : Ctx, C.P = Try.prog → ∀ r, InlOk C (J k) r := fun C hC r => noInl_ok
theorem sound (k : Nat) : Sound Try.prog 73 (entry k) := func_sound (E := env k) (by kernel_rfl) (by kernel_rfl) (by kernel_rfl) (by kernel_rfl) (tbl_cons (spec_l01Has.sound k) (tbl_cons (spec_l02Sorted.sound k) tbl_nil)) hf hb hn (fit k) (loops_all lps) (hJ k) (loops k) (eq k)
end spec_l12Levels

namespace spec_l12Pots
def entry (k : Nat) : Entry := ⟨[.ro (.sl 2 (.int .i64)), .ro (.sl 4 .bool)], [.own (.sl 49 (.pair (.int .i64) (.pair (.sl 2 (.int .i64)) .unit)))], fun (a0, (a1, _)) => f k a0 a1⟩
def tbl (k : Nat) : List (Nat × Option Entry) := [(73, some (spec_l12Levels.entry k))]
abbrev R := Res [.own (.sl 49 (.pair (.int .i64) (.pair (.sl 2 (.int .i64)) .unit)))] × Outs [.ro (.sl 2 (.int .i64)), .ro (.sl 4 .bool)]
def env (k : Nat) : Env := ⟨Try.prog, 105, AM.look none (tbl k), AM.look none [(10, some ⟨[(0, .asis), (1, .asis), (5, .asis), (6, .asis), (7, .asis), (8, .asis), (9, .asis), (10, .asis), (11, .asis)], [(0, .asis), (1, .asis), (5, .asis), (6, .asis), (8, .asis), (9, .asis), (10, .asis)]⟩), (5, some ⟨[(0, .asis), (1, .asis), (5, .asis), (6, .asis), (7, .asis), (8, .asis)], [(6, .asis)]⟩)]⟩
def sh10 : Shape := ⟨[(0, .val (.sl 2 (.int .i64))), (1, .val (.sl 4 .bool)), (5, .ref 0), (6, .ref 1), (7, .val (.int .i64)), (8, .val (.int .i64)), (9, .pc 2 0), (10, .ref 3), (11, .val (.int .i64))], [(0, .row 2 (.int .i64)), (1, .row 49 (.pair (.int .i64) (.pair (.sl 2 (.int .i64)) .unit))), (2, .cell [.val (.int .i64), .nils]), (3, .row 2 (.int .i64))], 4, []⟩
def osh10kx2 : Shape := ⟨[(0, .val (.sl 2 (.int .i64))), (1, .val (.sl 4 .bool)), (5, .ref 0), (6, .ref 1), (8, .val (.int .i64)), (9, .pc 2 0), (10, .ref 3)], [(0, .row 2 (.int .i64)), (1, .row 49 (.pair (.int .i64) (.pair (.sl 2 (.int .i64)) .unit))), (2, .cell [.val (.int .i64), .nils]), (3, .row 2 (.int .i64))], 4, []⟩
def un10 : (List Int) × (List Bool) × Int × Int × Int × (List Int) × (List (Int × ((List Int) × Unit))) × Int × (List Int) → sh10.V := fun (x0, x1, x7, x8, x11, y0, y1, z2_0, y3) => ((x0, (x1, ((), ((), (x7, (x8, ((), ((), (x11, ()))))))))), (y0, (y1, ((z2_0, ((), ())), (y3, ())))))
def fl10 : sh10.V → (List Int) × (List Bool) × Int × Int × Int × (List Int) × (List (Int × ((List Int) × Unit))) × Int × (List Int) := fun ((x0, (x1, (_, (_, (x7, (x8, (_, (_, (x11, _))))))))), (y0, (y1, ((z2_0, (_, _)), (y3, _))))) => (x0, x1, x7, x8, x11, y0, y1, z2_0, y3)
def sh5 : Shape := ⟨[(0, .val (.sl 2 (.int .i64))), (1, .val (.sl 4 .bool)), (5, .ref 0), (6, .ref 1), (7, .val (.int .i64)), (8, .val (.int .i64))], [(0, .row 2 (.int .i64)), (1, .row 49 (.pair (.int .i64) (.pair (.sl 2 (.int .i64)) .unit)))], 2, []⟩
def osh5kx0 : Shape := ⟨[(6, .ref 0)], [(0, .row 49 (.pair (.int .i64) (.pair (.sl 2 (.int .i64)) .unit)))], 1, []⟩
def un5 : (List Int) × (List Bool) × Int × Int × (List Int) × (List (Int × ((List Int) × Unit))) → sh5.V := fun (x0, x1, x7, x8, y0, y1) => ((x0, (x1, ((), ((), (x7, (x8, ())))))), (y0, (y1, ())))
def fl5 : sh5.V → (List Int) × (List Bool) × Int × Int × (List Int) × (List (Int × ((List Int) × Unit))) := fun ((x0, (x1, (_, (_, (x7, (x8, _)))))), (y0, (y1, _))) => (x0, x1, x7, x8, y0, y1)
def L (k : Nat) (q : Nat) (s : St) (K : AExit → St → Option R) : Option R := bif Nat.beq q 10 then (match sh10.dec s with | some v => l10 (R := R) k k (fl10 v) (fun (x0, x1, x8, y0, y1, z2_0, y3) => K (.exit 2) (osh10kx2.enc ((x0, (x1, ((), ((), (x8, ((), ((), ()))))))), (y0, (y1, ((z2_0, ((), ())), (y3, ()))))))) | none => none) else (bif Nat.beq q 5 then (match sh5.dec s with | some v => l5 (R := R) k k (fl5 v) (fun y0 => K (.exit 0) (osh5kx0.enc (((), ()), (y0, ())))) | none => none) else (none))
def J (k : Nat) : Inl R := noInl
theorem step10 (k n : Nat) (K : AExit → St → Option R) : ∀ v, aloop (aexec (env k) (J k) (L k) ((findLoop 10 (codeOf Try.f63)).getD .skip)) (normSt [(0, .asis), (1, .asis), (5, .asis), (6, .asis), (7, .asis), (8, .asis), (9, .asis), (10, .asis), (11, .asis)]) (normSt [(0, .asis), (1, .asis), (5, .asis), (6, .asis), (8, .asis), (9, .asis), (10, .asis)]) K (n + 1) (sh10.enc (un10 v)) = s10 (R := R) k (fun w => aloop (aexec (env k) (J k) (L k) ((findLoop 10 (codeOf Try.f63)).getD .skip)) (normSt [(0, .asis), (1, .asis), (5, .asis), (6, .asis), (7, .asis), (8, .asis), (9, .asis), (10, .asis), (11, .asis)]) (normSt [(0, .asis), (1, .asis), (5, .asis), (6, .asis), (8, .asis), (9, .asis), (10, .asis)]) K n (sh10.enc (un10 w))) (fun (x0, x1, x8, y0, y1, z2_0, y3) => K (.exit 2) (osh10kx2.enc ((x0, (x1, ((), ((), (x8, ((), ((), ()))))))), (y0, (y1, ((z2_0, ((), ())), (y3, ()))))))) v := by intro v; kernel_rfl
theorem step5 (k n : Nat) (K : AExit → St → Option R) : ∀ v, aloop (aexec (env k) (J k) (L k) ((findLoop 5 (codeOf Try.f63)).getD .skip)) (normSt [(0, .asis), (1, .asis), (5, .asis), (6, .asis), (7, .asis), (8, .asis)]) (normSt [(6, .asis)]) K (n + 1) (sh5.enc (un5 v)) = s5 (R := R) k (fun w => aloop (aexec (env k) (J k) (L k) ((findLoop 5 (codeOf Try.f63)).getD .skip)) (normSt [(0, .asis), (1, .asis), (5, .asis), (6, .asis), (7, .asis), (8, .asis)]) (normSt [(6, .asis)]) K n (sh5.enc (un5 w))) (fun y0 => K (.exit 0) (osh5kx0.enc (((), ()), (y0, ())))) v := by intro v; kernel_rfl
theorem eq (k : Nat) : ∀ a, aexec (env k) (J k) (L k) (codeOf Try.f63) (begSt [.ro (.sl 2 (.int .i64)), .ro (.sl 4 .bool)] a) (finK (env k) Try.f63 [.ro (.sl 2 (.int .i64)), .ro (.sl 4 .bool)] [.own (.sl 49 (.pair (.int .i64) (.pair (.sl 2 (.int .i64)) .unit)))]) = (entry k).fn a := by intro a; kernel_rfl
theorem run10 (k : Nat) (K : AExit → St → Option R) : ∀ n v, aloop (aexec (env k) (J k) (L k) ((findLoop 10 (codeOf Try.f63)).getD .skip)) (normSt [(0, .asis), (1, .asis), (5, .asis), (6, .asis), (7, .asis), (8, .asis), (9, .asis), (10, .asis), (11, .asis)]) (normSt [(0, .asis), (1, .asis), (5, .asis), (6, .asis), (8, .asis), (9, .asis), (10, .asis)]) K n (sh10.enc (un10 v)) = l10 (R := R) k n v (fun (x0, x1, x8, y0, y1, z2_0, y3) => K (.exit 2) (osh10kx2.enc ((x0, (x1, ((), ((), (x8, ((), ((), ()))))))), (y0, (y1, ((z2_0, ((), ())), (y3, ()))))))) := loop_eq (fun n v => aloop (aexec (env k) (J k) (L k) ((findLoop 10 (codeOf Try.f63)).getD .skip)) (normSt [(0, .asis), (1, .asis), (5, .asis), (6, .asis), (7, .asis), (8, .asis), (9, .asis), (10, .asis), (11, .asis)]) (normSt [(0, .asis), (1, .asis), (5, .asis), (6, .asis), (8, .asis), (9, .asis), (10, .asis)]) K n (sh10.enc (un10 v))) (fun n v => l10 (R := R) k n v (fun (x0, x1, x8, y0, y1, z2_0, y3) => K (.exit 2) (osh10kx2.enc ((x0, (x1, ((), ((), (x8, ((), ((), ()))))))), (y0, (y1, ((z2_0, ((), ())), (y3, ())))))))) (fun X v => s10 (R := R) k X (fun (x0, x1, x8, y0, y1, z2_0, y3) => K (.exit 2) (osh10kx2.enc ((x0, (x1, ((), ((), (x8, ((), ((), ()))))))), (y0, (y1, ((z2_0, ((), ())), (y3, ()))))))) v) (fun _ => rfl) (fun n v => step10 k n K v) (fun n v => rfl)
theorem run5 (k : Nat) (K : AExit → St → Option R) : ∀ n v, aloop (aexec (env k) (J k) (L k) ((findLoop 5 (codeOf Try.f63)).getD .skip)) (normSt [(0, .asis), (1, .asis), (5, .asis), (6, .asis), (7, .asis), (8, .asis)]) (normSt [(6, .asis)]) K n (sh5.enc (un5 v)) = l5 (R := R) k n v (fun y0 => K (.exit 0) (osh5kx0.enc (((), ()), (y0, ())))) := loop_eq (fun n v => aloop (aexec (env k) (J k) (L k) ((findLoop 5 (codeOf Try.f63)).getD .skip)) (normSt [(0, .asis), (1, .asis), (5, .asis), (6, .asis), (7, .asis), (8, .asis)]) (normSt [(6, .asis)]) K n (sh5.enc (un5 v))) (fun n v => l5 (R := R) k n v (fun y0 => K (.exit 0) (osh5kx0.enc (((), ()), (y0, ()))))) (fun X v => s5 (R := R) k X (fun y0 => K (.exit 0) (osh5kx0.enc (((), ()), (y0, ())))) v) (fun _ => rfl) (fun n v => step5 k n K v) (fun n v => rfl)
theorem loops (k : Nat) : LoopsOk (env k) (J k) (L k) (codeOf Try.f63) := by
  intro c an hc han s K r h
  unfold L at h
  by_cases q10 : firstRegion c = 10
  · have h1 := key_eq q10 h
    rw [q10] at hc han
    have e2 : an = ⟨[(0, .asis), (1, .asis), (5, .asis), (6, .asis), (7, .asis), (8, .asis), (9, .asis), (10, .asis), (11, .asis)], [(0, .asis), (1, .asis), (5, .asis), (6, .asis), (8, .asis), (9, .asis), (10, .asis)]⟩ := (Option.some.inj (show some _ = some an from han)).symm
    have e1 : c = (findLoop 10 (codeOf Try.f63)).getD .skip := by rw [hc]; rfl
    cases hd : sh10.dec s with
    | none => rw [hd] at h1; cases h1
    | some v =>
      rw [hd] at h1
      refine ⟨k, ?_⟩
      rw [e1, e2, Shape.dec_enc _ _ _ hd]
      exact (run10 k K k (fl10 v)).trans h1
  have h := not_key q10 h
  by_cases q5 : firstRegion c = 5
  · have h1 := key_eq q5 h
    rw [q5] at hc han
    have e2 : an = ⟨[(0, .asis), (1, .asis), (5, .asis), (6, .asis), (7, .asis), (8, .asis)], [(6, .asis)]⟩ := (Option.some.inj (show some _ = some an from han)).symm
    have e1 : c = (findLoop 5 (codeOf Try.f63)).getD .skip := by rw [hc]; rfl
    cases hd : sh5.dec s with
    | none => rw [hd] at h1; cases h1
    | some v =>
      rw [hd] at h1
      refine ⟨k, ?_⟩
      rw [e1, e2, Shape.dec_enc _ _ _ hd]
      exact (run5 k K k (fl5 v)).trans h1
  have h := not_key q5 h
  cases h
theorem fit (k : Nat) : codeFit (env k) (codeOf Try.f63) = true := by kernel_rfl
theorem lps : (loopsIn (codeOf Try.f63)).map (fun d => findLoop (firstRegion d) (codeOf Try.f63)) = (loopsIn (codeOf Try.f63)).map some := by kernel_rfl
theorem hf : Try.prog.funcs[63]? = some Try.f63 := by kernel_rfl
theorem hb : Try.f63.body = some (codeOf Try.f63) := by kernel_rfl
theorem hn : (Try.f63.name == "runtime.NumGoroutine") = false := by kernel_rfl
theorem hJ (k : Nat) : ∀ C : Ctx, C.P = Try.prog → ∀ r, InlOk C (J k) r := fun C hC r => noInl_ok
theorem sound (k : Nat) : Sound Try.prog 63 (entry k) := func_sound (E := env k) (by kernel_rfl) (by kernel_rfl) (by kernel_rfl) (by kernel_rfl) (tbl_cons (spec_l12Levels.sound k) tbl_nil) hf hb hn (fit k) (loops_all lps) (hJ k) (loops k) (eq k)
end spec_l12Pots

namespace spec_PotsOf
def entry (k : Nat) : Entry := ⟨[.ro (.sl 2 (.int .i64)), .ro (.sl 4 .bool)], [.own (.sl 49 (.pair (.int .i64) (.pair (.sl 2 (.int .i64)) .unit))), .own (.int .i64)], fun (a0, (a1, _)) => f k a0 a1⟩
def tbl (k : Nat) : List (Nat × Option Entry) := [(13, some (spec_ArePayments.entry k)), (56, some (spec_l12Refund.entry k)), (63, some (spec_l12Pots.entry k))]
abbrev R := Res [.own (.sl 49 (.pair (.int .i64) (.pair (.sl 2 (.int .i64)) .unit))), .own (.int .i64)] × Outs [.ro (.sl 2 (.int .i64)), .ro (.sl 4 .bool)]
def env (k : Nat) : Env := ⟨Try.prog, 14, AM.look none (tbl k), AM.look none []⟩
def L (k : Nat) (q : Nat) (s : St) (K : AExit → St → Option R) : Option R := none
def J (k : Nat) : Inl R := noInl
theorem eq (k : Nat) : ∀ a, aexec (env k) (J k) (L k) (codeOf Try.f37) (begSt [.ro (.sl 2 (.int .i64)), .ro (.sl 4 .bool)] a) (finK (env k) Try.f37 [.ro (.sl 2 (.int .i64)), .ro (.sl 4 .bool)] [.own (.sl 49 (.pair (.int .i64) (.pair (.sl 2 (.int .i64)) .unit))), .own (.int .i64)]) = (entry k).fn a := by intro a; kernel_rfl
theorem loops (k : Nat) : LoopsOk (env k) (J k) (L k) (codeOf Try.f37) := by
  intro c an hc han s K r h
  unfold L at h
  cases h
theorem fit (k : Nat) : codeFit (env k) (codeOf Try.f37) = true := by kernel_rfl
theorem lps : (loopsIn (codeOf Try.f37)).map (fun d => findLoop (firstRegion d) (codeOf Try.f37)) = (loopsIn (codeOf Try.f37)).map some := by kernel_rfl
theorem hf : Try.prog.funcs[37]? = some Try.f37 := by kernel_rfl
theorem hb : Try.f37.body = some (codeOf Try.f37) := by kernel_rfl
theorem hn : (Try.f37.name == "runtime.NumGoroutine") = false := by kernel_rfl
theorem hJ (k : Nat) : ∀ C : Ctx, C.P = Try.prog → ∀ r, InlOk C (J k) r := fun C hC r => noInl_ok
theorem sound (k : Nat) : Sound Try.prog 37 (entry k) := func_sound (E := env k) (by kernel_rfl) (by kernel_rfl) (by kernel_rfl) (by kernel_rfl) (tbl_cons (spec_ArePayments.sound k) (tbl_cons (spec_l12Refund.sound k) (tbl_cons (spec_l12Pots.sound k) tbl_nil))) hf hb hn (fit k) (loops_all lps) (hJ k) (loops k) (eq k)
end spec_PotsOf

namespace spec_MainPot
def entry (k : Nat) : Entry := ⟨[.ro (.sl 2 (.int .i64)), .ro (.sl 4 .bool)], [.own (.int .i64), .own (.int .i64)], fun (a0, (a1, _)) => f k a0 a1⟩
def tbl (k : Nat) : List (Nat × Option Entry) := [(37, some (spec_PotsOf.entry k))]
abbrev R := Res [.own (.int .i64), .own (.int .i64)] × Outs [.ro (.sl 2 (.int .i64)), .ro (.sl 4 .bool)]
def env (k : Nat) : Env := ⟨Try.prog, 24, AM.look none (tbl k), AM.look none []⟩
def L (k : Nat) (q : Nat) (s : St) (K : AExit → St → Option R) : Option R := none
def J (k : Nat) : Inl R := noInl
theorem eq (k : Nat) : ∀ a, aexec (env k) (J k) (L k) (codeOf Try.f30) (begSt [.ro (.sl 2 (.int .i64)), .ro (.sl 4 .bool)] a) (finK (env k) Try.f30 [.ro (.sl 2 (.int .i64)), .ro (.sl 4 .bool)] [.own (.int .i64), .own (.int .i64)]) = (entry k).fn a := by intro a; kernel_rfl
theorem loops (k : Nat) : LoopsOk (env k) (J k) (L k) (codeOf Try.f30) := by
  intro c an hc han s K r h
  unfold L at h
  cases h
theorem fit (k : Nat) : codeFit (env k) (codeOf Try.f30) = true := by kernel_rfl
theorem lps : (loopsIn (codeOf Try.f30)).map (fun d => findLoop (firstRegion d) (codeOf Try.f30)) = (loopsIn (codeOf Try.f30)).map some := by kernel_rfl
theorem hf : Try.prog.funcs[30]? = some Try.f30 := by kernel_rfl
theorem hb : Try.f30.body = some (codeOf Try.f30) := by kernel_rfl
theorem hn : (Try.f30.name == "runtime.NumGoroutine") = false := by kernel_rfl
theorem hJ (k : Nat) : ∀ C : Ctx, C.P = Try.prog → ∀ r, InlOk C (J k) r := fun C hC r => noInl_ok
theorem sound (k : Nat) : Sound Try.prog 30 (entry k) := func_sound (E := env k) (by kernel_rfl) (by kernel_rfl) (by kernel_rfl) (by kernel_rfl) (tbl_cons (spec_PotsOf.sound k) tbl_nil) hf hb hn (fit k) (loops_all lps) (hJ k) (loops k) (eq k)
end spec_MainPot

namespace impl_MainPot
def entry (k : Nat) : Entry := ⟨[.ro (.sl 2 (.int .i64)), .ro (.sl 4 .bool)], [.own (.int .i64), .own (.int .i64)], fun (a0, (a1, _)) => f k a0 a1⟩
def tbl (k : Nat) : List (Nat × Option Entry) := [(16, some (impl_ArePayments.entry k)), (58, some (impl_potsOf.entry k))]
abbrev R := Res [.own (.int .i64), .own (.int .i64)] × Outs [.ro (.sl 2 (.int .i64)), .ro (.sl 4 .bool)]
def env (k : Nat) : Env := ⟨Try.prog, 21, AM.look none (tbl k), AM.look none []⟩
def L (k : Nat) (q : Nat) (s : St) (K : AExit → St → Option R) : Option R := none
def J (k : Nat) : Inl R := noInl
theorem eq (k : Nat) : ∀ a, aexec (env k) (J k) (L k) (codeOf Try.f31) (begSt [.ro (.sl 2 (.int .i64)), .ro (.sl 4 .bool)] a) (finK (env k) Try.f31 [.ro (.sl 2 (.int .i64)), .ro (.sl 4 .bool)] [.own (.int .i64), .own (.int .i64)]) = (entry k).fn a := by intro a; kernel_rfl
theorem loops (k : Nat) : LoopsOk (env k) (J k) (L k) (codeOf Try.f31) := by
  intro c an hc han s K r h
  unfold L at h
  cases h
theorem fit (k : Nat) : codeFit (env k) (codeOf Try.f31) = true := by kernel_rfl
theorem lps : (loopsIn (codeOf Try.f31)).map (fun d => findLoop (firstRegion d) (codeOf Try.f31)) = (loopsIn (codeOf Try.f31)).map some := by kernel_rfl
theorem hf : Try.prog.funcs[31]? = some Try.f31 := by kernel_rfl
theorem hb : Try.f31.body = some (codeOf Try.f31) := by kernel_rfl
theorem hn : (Try.f31.name == "runtime.NumGoroutine") = false := by kernel_rfl
theorem hJ (k : Nat) : ∀ C : Ctx, C.P = Try.prog → ∀ r, InlOk C (J k) r := fun C hC r => noInl_ok
theorem sound (k : Nat) : Sound Try.prog 31 (entry k) := func_sound (E := env k) (by kernel_rfl) (by kernel_rfl) (by kernel_rfl) (by kernel_rfl) (tbl_cons (impl_ArePayments.sound k) (tbl_cons (impl_potsOf.sound k) tbl_nil)) hf hb hn (fit k) (loops_all lps) (hJ k) (loops k) (eq k)
end impl_MainPot

namespace spec_ShareIn
def entry (k : Nat) : Entry := ⟨[.ro (.sl 2 (.int .i64)), .ro (.sl 4 .bool), .ro (.int .i64)], [.own (.int .i64), .own (.int .i64)], fun (a0, (a1, (a2, _))) => f k a0 a1 a2⟩
def tbl (k : Nat) : List (Nat × Option Entry) := [(37, some (spec_PotsOf.entry k)), (47, some (spec_l01In.entry k)), (59, some (spec_l01Has.entry k))]
abbrev R := Res [.own (.int .i64), .own (.int .i64)] × Outs [.ro (.sl 2 (.int .i64)), .ro (.sl 4 .bool), .ro (.int .i64)]
def env (k : Nat) : Env := ⟨Try.prog, 52, AM.look none (tbl k), AM.look none [(8, some ⟨[(2, .asis), (8, .asis), (10, .asis), (11, .asis)], [(10, .asis)]⟩)]⟩
def sh8 : Shape := ⟨[(2, .val (.int .i64)), (8, .ref 0), (10, .val (.int .i64)), (11, .val (.int .i64))], [(0, .row 49 (.pair (.int .i64) (.pair (.sl 2 (.int .i64)) .unit)))], 1, []⟩
def osh8kx0 : Shape := ⟨[(10, .val (.int .i64))], [], 0, []⟩
def un8 : Int × Int × Int × (List (Int × ((List Int) × Unit))) → sh8.V := fun (x2, x10, x11, y0) => ((x2, ((), (x10, (x11, ())))), (y0, ()))
def fl8 : sh8.V → Int × Int × Int × (List (Int × ((List Int) × Unit))) := fun ((x2, (_, (x10, (x11, _)))), (y0, _)) => (x2, x10, x11, y0)
def L (k : Nat) (q : Nat) (s : St) (K : AExit → St → Option R) : Option R := bif Nat.beq q 8 then (match sh8.dec s with | some v => l8 (R := R) k k (fl8 v) (fun x10 => K (.exit 0) (osh8kx0.enc ((x10, ()), ()))) | none => none) else (none)
def J (k : Nat) : Inl R := noInl
theorem step8 (k n : Nat) (K : AExit → St → Option R) : ∀ v, aloop (aexec (env k) (J k) (L k) ((findLoop 8 (codeOf Try.f32)).getD .skip)) (normSt [(2, .asis), (8, .asis), (10, .asis), (11, .asis)]) (normSt [(10, .asis)]) K (n + 1) (sh8.enc (un8 v)) = s8 (R := R) k (fun w => aloop (aexec (env k) (J k) (L k) ((findLoop 8 (codeOf Try.f32)).getD .skip)) (normSt [(2, .asis), (8, .asis), (10, .asis), (11, .asis)]) (normSt [(10, .asis)]) K n (sh8.enc (un8 w))) (fun x10 => K (.exit 0) (osh8kx0.enc ((x10, ()), ()))) v := by intro v; kernel_rfl
theorem eq (k : Nat) : ∀ a, aexec (env k) (J k) (L k) (codeOf Try.f32) (begSt [.ro (.sl 2 (.int .i64)), .ro (.sl 4 .bool), .ro (.int .i64)] a) (finK (env k) Try.f32 [.ro (.sl 2 (.int .i64)), .ro (.sl 4 .bool), .ro (.int .i64)] [.own (.int .i64), .own (.int .i64)]) = (entry k).fn a := by intro a; kernel_rfl
theorem run8 (k : Nat) (K : AExit → St → Option R) : ∀ n v, aloop (aexec (env k) (J k) (L k) ((findLoop 8 (codeOf Try.f32)).getD .skip)) (normSt [(2, .asis), (8, .asis), (10, .asis), (11, .asis)]) (normSt [(10, .asis)]) K n (sh8.enc (un8 v)) = l8 (R := R) k n v (fun x10 => K (.exit 0) (osh8kx0.enc ((x10, ()), ()))) := loop_eq (fun n v => aloop (aexec (env k) (J k) (L k) ((findLoop 8 (codeOf Try.f32)).getD .skip)) (normSt [(2, .asis), (8, .asis), (10, .asis), (11, .asis)]) (normSt [(10, .asis)]) K n (sh8.enc (un8 v))) (fun n v => l8 (R := R) k n v (fun x10 => K (.exit 0) (osh8kx0.enc ((x10, ()), ())))) (fun X v => s8 (R := R) k X (fun x10 => K (.exit 0) (osh8kx0.enc ((x10, ()), ()))) v) (fun _ => rfl) (fun n v => step8 k n K v) (fun n v => rfl)
theorem loops (k : Nat) : LoopsOk (env k) (J k) (L k) (codeOf Try.f32) := by
  intro c an hc han s K r h
  unfold L at h
  by_cases q8 : firstRegion c = 8
  · have h1 := key_eq q8 h
    rw [q8] at hc han
    have e2 : an = ⟨[(2, .asis), (8, .asis), (10, .asis), (11, .asis)], [(10, .asis)]⟩ := (Option.some.inj (show some _ = some an from han)).symm
    have e1 : c = (findLoop 8 (codeOf Try.f32)).getD .skip := by rw [hc]; rfl
    cases hd : sh8.dec s with
    | none => rw [hd] at h1; cases h1
    | some v =>
      rw [hd] at h1
      refine ⟨k, ?_⟩
      rw [e1, e2, Shape.dec_enc _ _ _ hd]
      exact (run8 k K k (fl8 v)).trans h1
  have h := not_key q8 h
  cases h
theorem fit (k : Nat) : codeFit (env k) (codeOf Try.f32) = true := by kernel_rfl
theorem lps : (loopsIn (codeOf Try.f32)).map (fun d => findLoop (firstRegion d) (codeOf Try.f32)) = (loopsIn (codeOf Try.f32)).map some := by kernel_rfl
theorem hf : Try.prog.funcs[32]? = some Try.f32 := by kernel_rfl
theorem hb : Try.f32.body = some (codeOf Try.f32) := by kernel_rfl
theorem hn : (Try.f32.name == "runtime.NumGoroutine") = false := by kernel_rfl
theorem hJ (k : Nat) : ∀ C : Ctx, C.P = Try.prog → ∀ r, InlOk C (J k) r := fun C hC r => noInl_ok
theorem sound (k : Nat) : Sound Try.prog 32 (entry k) := func_sound (E := env k) (by kernel_rfl) (by kernel_rfl) (by kernel_rfl) (by kernel_rfl) (tbl_cons (spec_PotsOf.sound k) (tbl_cons (spec_l01In.sound k) (tbl_cons (spec_l01Has.sound k) tbl_nil))) hf hb hn (fit k) (loops_all lps) (hJ k) (loops k) (eq k)
end spec_ShareIn

namespace slices_Contains_int64_int64
def entry (k : Nat) : Entry := ⟨[.ro (.sl 2 (.int .i64)), .ro (.int .i64)], [.own .bool], fun (a0, (a1, _)) => f k a0 a1⟩
def tbl (k : Nat) : List (Nat × Option Entry) := [(67, some (slices_Index_int64_int64.entry k))]
abbrev R := Res [.own .bool] × Outs [.ro (.sl 2 (.int .i64)), .ro (.int .i64)]
def env (k : Nat) : Env := ⟨Try.prog, 9, AM.look none (tbl k), AM.look none []⟩
def L (k : Nat) (q : Nat) (s : St) (K : AExit → St → Option R) : Option R := none
def J (k : Nat) : Inl R := noInl
theorem eq (k : Nat) : ∀ a, aexec (env k) (J k) (L k) (codeOf Try.f60) (begSt [.ro (.sl 2 (.int .i64)), .ro (.int .i64)] a) (finK (env k) Try.f60 [.ro (.sl 2 (.int .i64)), .ro (.int .i64)] [.own .bool]) = (entry k).fn a := by intro a; kernel_rfl
theorem loops (k : Nat) : LoopsOk (env k) (J k) (L k) (codeOf Try.f60) := by
  intro c an hc han s K r h
  unfold L at h
  cases h
theorem fit (k : Nat) : codeFit (env k) (codeOf Try.f60) = true := by kernel_rfl
theorem lps : (loopsIn (codeOf Try.f60)).map (fun d => findLoop (firstRegion d) (codeOf Try.f60)) = (loopsIn (codeOf Try.f60)).map some := by kernel_rfl
theorem hf : Try.prog.funcs[60]? = some Try.f60 := by kernel_rfl
theorem hb : Try.f60.body = some (codeOf Try.f60) := by kernel_rfl
theorem hn : (Try.f60.name == "runtime.NumGoroutine") = false := by kernel_rfl
theorem hJ (k : Nat) : ∀ C : Ctx, C.P = Try.prog → ∀ r, InlOk C (J k) r := fun C hC r => noInl_ok
theorem sound (k : Nat) : Sound Try.prog 60 (entry k) := func_sound (E := env k) (by kernel_rfl) (by kernel_rfl) (by kernel_rfl) (by kernel_rfl) (tbl_cons (slices_Index_int64_int64.sound k) tbl_nil) hf hb hn (fit k) (loops_all lps) (hJ k) (loops k) (eq k)
end slices_Contains_int64_int64

namespace impl_ShareIn
def entry (k : Nat) : Entry := ⟨[.ro (.sl 2 (.int .i64)), .ro (.sl 4 .bool), .ro (.int .i64)], [.own (.int .i64), .own (.int .i64)], fun (a0, (a1, (a2, _))) => f k a0 a1 a2⟩
def tbl (k : Nat) : List (Nat × Option Entry) := [(16, some (impl_ArePayments.entry k)), (49, some (impl_within.entry k)), (58, some (impl_potsOf.entry k)), (60, some (slices_Contains_int64_int64.entry k))]
abbrev R := Res [.own (.int .i64), .own (.int .i64)] × Outs [.ro (.sl 2 (.int .i64)), .ro (.sl 4 .bool), .ro (.int .i64)]
def env (k : Nat) : Env := ⟨Try.prog, 39, AM.look none (tbl k), AM.look none [(7, some ⟨[(2, .asis), (8, .asis), (23, .asis), (24, .asis), (25, .asis)], [(8, .asis)]⟩)]⟩
def sh7 : Shape := ⟨[(2, .val (.int .i64)), (8, .val (.int .i64)), (23, .ref 0), (24, .val (.int .i64)), (25, .val (.int .i64))], [(0, .row 49 (.pair (.int .i64) (.pair (.sl 2 (.int .i64)) .unit)))], 1, []⟩
def osh7kx0 : Shape := ⟨[(8, .val (.int .i64))], [], 0, []⟩
def un7 : Int × Int × Int × Int × (List (Int × ((List Int) × Unit))) → sh7.V := fun (x2, x8, x24, x25, y0) => ((x2, (x8, ((), (x24, (x25, ()))))), (y0, ()))
def fl7 : sh7.V → Int × Int × Int × Int × (List (Int × ((List Int) × Unit))) := fun ((x2, (x8, (_, (x24, (x25, _))))), (y0, _)) => (x2, x8, x24, x25, y0)
def L (k : Nat) (q : Nat) (s : St) (K : AExit → St → Option R) : Option R := bif Nat.beq q 7 then (match sh7.dec s with | some v => l7 (R := R) k k (fl7 v) (fun x8 => K (.exit 0) (osh7kx0.enc ((x8, ()), ()))) | none => none) else (none)
def J (k : Nat) : Inl R := noInl
theorem step7 (k n : Nat) (K : AExit → St → Option R) : ∀ v, aloop (aexec (env k) (J k) (L k) ((findLoop 7 (codeOf Try.f33)).getD .skip)) (normSt [(2, .asis), (8, .asis), (23, .asis), (24, .asis), (25, .asis)]) (normSt [(8, .asis)]) K (n + 1) (sh7.enc (un7 v)) = s7 (R := R) k (fun w => aloop (aexec (env k) (J k) (L k) ((findLoop 7 (codeOf Try.f33)).getD .skip)) (normSt [(2, .asis), (8, .asis), (23, .asis), (24, .asis), (25, .asis)]) (normSt [(8, .asis)]) K n (sh7.enc (un7 w))) (fun x8 => K (.exit 0) (osh7kx0.enc ((x8, ()), ()))) v := by intro v; kernel_rfl
theorem eq (k : Nat) : ∀ a, aexec (env k) (J k) (L k) (codeOf Try.f33) (begSt [.ro (.sl 2 (.int .i64)), .ro (.sl 4 .bool), .ro (.int .i64)] a) (finK (env k) Try.f33 [.ro (.sl 2 (.int .i64)), .ro (.sl 4 .bool), .ro (.int .i64)] [.own (.int .i64), .own (.int .i64)]) = (entry k).fn a := by intro a; kernel_rfl
theorem run7 (k : Nat) (K : AExit → St → Option R) : ∀ n v, aloop (aexec (env k) (J k) (L k) ((findLoop 7 (codeOf Try.f33)).getD .skip)) (normSt [(2, .asis), (8, .asis), (23, .asis), (24, .asis), (25, .asis)]) (normSt [(8, .asis)]) K n (sh7.enc (un7 v)) = l7 (R := R) k n v (fun x8 => K (.exit 0) (osh7kx0.enc ((x8, ()), ()))) := loop_eq (fun n v => aloop (aexec (env k) (J k) (L k) ((findLoop 7 (codeOf Try.f33)).getD .skip)) (normSt [(2, .asis), (8, .asis), (23, .asis), (24, .asis), (25, .asis)]) (normSt [(8, .asis)]) K n (sh7.enc (un7 v))) (fun n v => l7 (R := R) k n v (fun x8 => K (.exit 0) (osh7kx0.enc ((x8, ()), ())))) (fun X v => s7 (R := R) k X (fun x8 => K (.exit 0) (osh7kx0.enc ((x8, ()), ()))) v) (fun _ => rfl) (fun n v => step7 k n K v) (fun n v => rfl)
theorem loops (k : Nat) : LoopsOk (env k) (J k) (L k) (codeOf Try.f33) := by
  intro c an hc han s K r h
  unfold L at h
  by_cases q7 : firstRegion c = 7
  · have h1 := key_eq q7 h
    rw [q7] at hc han
    have e2 : an = ⟨[(2, .asis), (8, .asis), (23, .asis), (24, .asis), (25, .asis)], [(8, .asis)]⟩ := (Option.some.inj (show some _ = some an from han)).symm
    have e1 : c = (findLoop 7 (codeOf Try.f33)).getD .skip := by rw [hc]; rfl
    cases hd : sh7.dec s with
    | none => rw [hd] at h1; cases h1
    | some v =>
      rw [hd] at h1
      refine ⟨k, ?_⟩
      rw [e1, e2, Shape.dec_enc _ _ _ hd]
      exact (run7 k K k (fl7 v)).trans h1
  have h := not_key q7 h
  cases h
theorem fit (k : Nat) : codeFit (env k) (codeOf Try.f33) = true := by kernel_rfl
theorem lps : (loopsIn (codeOf Try.f33)).map (fun d => findLoop (firstRegion d) (codeOf Try.f33)) = (loopsIn (codeOf Try.f33)).map some := by kernel_rfl
theorem hf : Try.prog.funcs[33]? = some Try.f33 := by kernel_rfl
theorem hb : Try.f33.body = some (codeOf Try.f33) := by kernel_rfl
theorem hn : (Try.f33.name == "runtime.NumGoroutine") = false := by kernel_rfl
theorem hJ (k : Nat) : ∀ C : Ctx, C.P = Try.prog → ∀ r, InlOk C (J k) r := fun C hC r => noInl_ok
theorem sound (k : Nat) : Sound Try.prog 33 (entry k) := func_sound (E := env k) (by kernel_rfl) (by kernel_rfl) (by kernel_rfl) (by kernel_rfl) (tbl_cons (impl_ArePayments.sound k) (tbl_cons (impl_within.sound k) (tbl_cons (impl_potsOf.sound k) (tbl_cons (slices_Contains_int64_int64.sound k) tbl_nil)))) hf hb hn (fit k) (loops_all lps) (hJ k) (loops k) (eq k)
end impl_ShareIn

namespace laws_big
def entry (k : Nat) : Entry := ⟨[.ro (.sl 5 (.int .u8))], [.own .bool], fun (a0, _) => f k a0⟩
def tbl (k : Nat) : List (Nat × Option Entry) := []
abbrev R := Res [.own .bool] × Outs [.ro (.sl 5 (.int .u8))]
def env (k : Nat) : Env := ⟨Try.prog, 6, AM.look none (tbl k), AM.look none []⟩
def L (k : Nat) (q : Nat) (s : St) (K : AExit → St → Option R) : Option R := none
def J (k : Nat) : Inl R := noInl
theorem eq (k : Nat) : ∀ a, aexec (env k) (J k) (L k) (codeOf Try.f34) (begSt [.ro (.sl 5 (.int .u8))] a) (finK (env k) Try.f34 [.ro (.sl 5 (.int .u8))] [.own .bool]) = (entry k).fn a := by intro a; kernel_rfl
theorem loops (k : Nat) : LoopsOk (env k) (J k) (L k) (codeOf Try.f34) := by
  intro c an hc han s K r h
  unfold L at h
  cases h
theorem fit (k : Nat) : codeFit (env k) (codeOf Try.f34) = true := by kernel_rfl
theorem lps : (loopsIn (codeOf Try.f34)).map (fun d => findLoop (firstRegion d) (codeOf Try.f34)) = (loopsIn (codeOf Try.f34)).map some := by kernel_rfl
theorem hf : Try.prog.funcs[34]? = some Try.f34 := by kernel_rfl
theorem hb : Try.f34.body = some (codeOf Try.f34) := by kernel_rfl
theorem hn : (Try.f34.name == "runtime.NumGoroutine") = false := by kernel_rfl
theorem hJ (k : Nat) : ∀ C : Ctx, C.P = Try.prog → ∀ r, InlOk C (J k) r := fun C hC r => noInl_ok
theorem sound (k : Nat) : Sound Try.prog 34 (entry k) := func_sound (E := env k) (by kernel_rfl) (by kernel_rfl) (by kernel_rfl) (by kernel_rfl) tbl_nil hf hb hn (fit k) (loops_all lps) (hJ k) (loops k) (eq k)
end laws_big

namespace laws_sum
def entry (k : Nat) : Entry := ⟨[.ro (.sl 2 (.int .i64))], [.own (.int .i64)], fun (a0, _) => f k a0⟩
def tbl (k : Nat) : List (Nat × Option Entry) := []
abbrev R := Res [.own (.int .i64)] × Outs [.ro (.sl 2 (.int .i64))]
def env (k : Nat) : Env := ⟨Try.prog, 18, AM.look none (tbl k), AM.look none [(3, some ⟨[(0, .asis), (3, .asis), (4, .asis)], [(3, .asis)]⟩)]⟩
def sh3 : Shape := ⟨[(0, .val (.sl 2 (.int .i64))), (3, .val (.int .i64)), (4, .val (.int .i64))], [], 0, []⟩
def osh3kx0 : Shape := ⟨[(3, .val (.int .i64))], [], 0, []⟩
def un3 : (List Int) × Int × Int → sh3.V := fun (x0, x3, x4) => ((x0, (x3, (x4, ()))), ())
def fl3 : sh3.V → (List Int) × Int × Int := fun ((x0, (x3, (x4, _))), _) => (x0, x3, x4)
def L (k : Nat) (q : Nat) (s : St) (K : AExit → St → Option R) : Option R := bif Nat.beq q 3 then (match sh3.dec s with | some v => l3 (R := R) k k (fl3 v) (fun x3 => K (.exit 0) (osh3kx0.enc ((x3, ()), ()))) | none => none) else (none)
def J (k : Nat) : Inl R := noInl
theorem step3 (k n : Nat) (K : AExit → St → Option R) : ∀ v, aloop (aexec (env k) (J k) (L k) ((findLoop 3 (codeOf Try.f39)).getD .skip)) (normSt [(0, .asis), (3, .asis), (4, .asis)]) (normSt [(3, .asis)]) K (n + 1) (sh3.enc (un3 v)) = s3 (R := R) k (fun w => aloop (aexec (env k) (J k) (L k) ((findLoop 3 (codeOf Try.f39)).getD .skip)) (normSt [(0, .asis), (3, .asis), (4, .asis)]) (normSt [(3, .asis)]) K n (sh3.enc (un3 w))) (fun x3 => K (.exit 0) (osh3kx0.enc ((x3, ()), ()))) v := by intro v; kernel_rfl
theorem eq (k : Nat) : ∀ a, aexec (env k) (J k) (L k) (codeOf Try.f39) (begSt [.ro (.sl 2 (.int .i64))] a) (finK (env k) Try.f39 [.ro (.sl 2 (.int .i64))] [.own (.int .i64)]) = (entry k).fn a := by intro a; kernel_rfl
theorem run3 (k : Nat) (K : AExit → St → Option R) : ∀ n v, aloop (aexec (env k) (J k) (L k) ((findLoop 3 (codeOf Try.f39)).getD .skip)) (normSt [(0, .asis), (3, .asis), (4, .asis)]) (normSt [(3, .asis)]) K n (sh3.enc (un3 v)) = l3 (R := R) k n v (fun x3 => K (.exit 0) (osh3kx0.enc ((x3, ()), ()))) := loop_eq (fun n v => aloop (aexec (env k) (J k) (L k) ((findLoop 3 (codeOf Try.f39)).getD .skip)) (normSt [(0, .asis), (3, .asis), (4, .asis)]) (normSt [(3, .asis)]) K n (sh3.enc (un3 v))) (fun n v => l3 (R := R) k n v (fun x3 => K (.exit 0) (osh3kx0.enc ((x3, ()), ())))) (fun X v => s3 (R := R) k X (fun x3 => K (.exit 0) (osh3kx0.enc ((x3, ()), ()))) v) (fun _ => rfl) (fun n v => step3 k n K v) (fun n v => rfl)
theorem loops (k : Nat) : LoopsOk (env k) (J k) (L k) (codeOf Try.f39) := by
  intro c an hc han s K r h
  unfold L at h
  by_cases q3 : firstRegion c = 3
  · have h1 := key_eq q3 h
    rw [q3] at hc han
    have e2 : an = ⟨[(0, .asis), (3, .asis), (4, .asis)], [(3, .asis)]⟩ := (Option.some.inj (show some _ = some an from han)).symm
    have e1 : c = (findLoop 3 (codeOf Try.f39)).getD .skip := by rw [hc]; rfl
    cases hd : sh3.dec s with
    | none => rw [hd] at h1; cases h1
    | some v =>
      rw [hd] at h1
      refine ⟨k, ?_⟩
      rw [e1, e2, Shape.dec_enc _ _ _ hd]
      exact (run3 k K k (fl3 v)).trans h1
  have h := not_key q3 h
  cases h
theorem fit (k : Nat) : codeFit (env k) (codeOf Try.f39) = true := by kernel_rfl
theorem lps : (loopsIn (codeOf Try.f39)).map (fun d => findLoop (firstRegion d) (codeOf Try.f39)) = (loopsIn (codeOf Try.f39)).map some := by kernel_rfl
theorem hf : Try.prog.funcs[39]? = some Try.f39 := by kernel_rfl
theorem hb : Try.f39.body = some (codeOf Try.f39) := by kernel_rfl
theorem hn : (Try.f39.name == "runtime.NumGoroutine") = false := by kernel_rfl
theorem hJ (k : Nat) : ∀ C : Ctx, C.P = Try.prog → ∀ r, InlOk C (J k) r := fun C hC r => noInl_ok
theorem sound (k : Nat) : Sound Try.prog 39 (entry k) := func_sound (E := env k) (by kernel_rfl) (by kernel_rfl) (by kernel_rfl) (by kernel_rfl) tbl_nil hf hb hn (fit k) (loops_all lps) (hJ k) (loops k) (eq k)
end laws_sum

namespace spec_l01Next
def entry (k : Nat) : Entry := ⟨[.ptr (.pair (.sl 5 (.int .u8)) (.pair (.int .i64) (.pair (.int .i64) .unit))), .ro (.int .i64)], [.own (.int .i64)], fun (a0, (a1, _)) => f k a0 a1⟩
def tbl (k : Nat) : List (Nat × Option Entry) := []
abbrev R := Res [.own (.int .i64)] × Outs [.ptr (.pair (.sl 5 (.int .u8)) (.pair (.int .i64) (.pair (.int .i64) .unit))), .ro (.int .i64)]
def env (k : Nat) : Env := ⟨Try.prog, 78, AM.look none (tbl k), AM.look none []⟩
def L (k : Nat) (q : Nat) (s : St) (K : AExit → St → Option R) : Option R := none
def J (k : Nat) : Inl R := noInl
theorem eq (k : Nat) : ∀ a, aexec (env k) (J k) (L k) (codeOf Try.f65) (begSt [.ptr (.pair (.sl 5 (.int .u8)) (.pair (.int .i64) (.pair (.int .i64) .unit))), .ro (.int .i64)] a) (finK (env k) Try.f65 [.ptr (.pair (.sl 5 (.int .u8)) (.pair (.int .i64) (.pair (.int .i64) .unit))), .ro (.int .i64)] [.own (.int .i64)]) = (entry k).fn a := by intro a; kernel_rfl
theorem loops (k : Nat) : LoopsOk (env k) (J k) (L k) (codeOf Try.f65) := by
  intro c an hc han s K r h
  unfold L at h
  cases h
theorem fit (k : Nat) : codeFit (env k) (codeOf Try.f65) = true := by kernel_rfl
theorem lps : (loopsIn (codeOf Try.f65)).map (fun d => findLoop (firstRegion d) (codeOf Try.f65)) = (loopsIn (codeOf Try.f65)).map some := by kernel_rfl
theorem hf : Try.prog.funcs[65]? = some Try.f65 := by kernel_rfl
theorem hb : Try.f65.body = some (codeOf Try.f65) := by kernel_rfl
theorem hn : (Try.f65.name == "runtime.NumGoroutine") = false := by kernel_rfl
theorem hJ (k : Nat) : ∀ C : Ctx, C.P = Try.prog → ∀ r, InlOk C (J k) r := fun C hC r => noInl_ok
theorem sound (k : Nat) : Sound Try.prog 65 (entry k) := func_sound (E := env k) (by kernel_rfl) (by kernel_rfl) (by kernel_rfl) (by kernel_rfl) tbl_nil hf hb hn (fit k) (loops_all lps) (hJ k) (loops k) (eq k)
end spec_l01Next

namespace spec_l01Pick
def entry (k : Nat) : Entry := ⟨[.ptr (.pair (.sl 5 (.int .u8)) (.pair (.int .i64) (.pair (.int .i64) .unit))), .ro (.sl 2 (.int .i64))], [.own (.int .i64)], fun (a0, (a1, _)) => f k a0 a1⟩
def tbl (k : Nat) : List (Nat × Option Entry) := [(65, some (spec_l01Next.entry k))]
abbrev R := Res [.own (.int .i64)] × Outs [.ptr (.pair (.sl 5 (.int .u8)) (.pair (.int .i64) (.pair (.int .i64) .unit))), .ro (.sl 2 (.int .i64))]
def env (k : Nat) : Env := ⟨Try.prog, 12, AM.look none (tbl k), AM.look none []⟩
def L (k : Nat) (q : Nat) (s : St) (K : AExit → St → Option R) : Option R := none
def J (k : Nat) : Inl R := noInl
theorem eq (k : Nat) : ∀ a, aexec (env k) (J k) (L k) (codeOf Try.f72) (begSt [.ptr (.pair (.sl 5 (.int .u8)) (.pair (.int .i64) (.pair (.int .i64) .unit))), .ro (.sl 2 (.int .i64))] a) (finK (env k) Try.f72 [.ptr (.pair (.sl 5 (.int .u8)) (.pair (.int .i64) (.pair (.int .i64) .unit))), .ro (.sl 2 (.int .i64))] [.own (.int .i64)]) = (entry k).fn a := by intro a; kernel_rfl
theorem loops (k : Nat) : LoopsOk (env k) (J k) (L k) (codeOf Try.f72) := by
  intro c an hc han s K r h
  unfold L at h
  cases h
theorem fit (k : Nat) : codeFit (env k) (codeOf Try.f72) = true := by kernel_rfl
theorem lps : (loopsIn (codeOf Try.f72)).map (fun d => findLoop (firstRegion d) (codeOf Try.f72)) = (loopsIn (codeOf Try.f72)).map some := by kernel_rfl
theorem hf : Try.prog.funcs[72]? = some Try.f72 := by kernel_rfl
theorem hb : Try.f72.body = some (codeOf Try.f72) := by kernel_rfl
theorem hn : (Try.f72.name == "runtime.NumGoroutine") = false := by kernel_rfl
theorem hJ (k : Nat) : ∀ C : Ctx, C.P = Try.prog → ∀ r, InlOk C (J k) r := fun C hC r => noInl_ok
theorem sound (k : Nat) : Sound Try.prog 72 (entry k) := func_sound (E := env k) (by kernel_rfl) (by kernel_rfl) (by kernel_rfl) (by kernel_rfl) (tbl_cons (spec_l01Next.sound k) tbl_nil) hf hb hn (fit k) (loops_all lps) (hJ k) (loops k) (eq k)
end spec_l01Pick

namespace spec_l12Draw
def entry (k : Nat) : Entry := ⟨[.ptr (.pair (.sl 5 (.int .u8)) (.pair (.int .i64) (.pair (.int .i64) .unit)))], [.stb (.sl 2 (.int .i64)), .own (.sl 4 .bool)], fun (a0, _) => f k a0⟩
def tbl (k : Nat) : List (Nat × Option Entry) := [(65, some (spec_l01Next.entry k)), (72, some (spec_l01Pick.entry k))]
abbrev R := Res [.stb (.sl 2 (.int .i64)), .own (.sl 4 .bool)] × Outs [.ptr (.pair (.sl 5 (.int .u8)) (.pair (.int .i64) (.pair (.int .i64) .unit)))]
def env (k : Nat) : Env := ⟨Try.prog, 81, AM.look none (tbl k), AM.look none [(4, some ⟨[(0, .asis), (4, .asis), (5, .asis), (6, .asis), (7, .asis)], [(0, .asis), (5, .asis), (6, .asis)]⟩), (15, some ⟨[(5, .asis), (6, .asis), (8, .asis)], [(5, .asis), (6, .asis)]⟩), (22, some ⟨[(5, .asis), (6, .asis), (9, .asis)], [(5, .asis), (6, .asis)]⟩)]⟩
def sh4 : Shape := ⟨[(0, .pc 0 0), (4, .val (.int .i64)), (5, .ref 1), (6, .ref 2), (7, .val (.int .i64))], [(0, .cell [.val (.sl 5 (.int .u8)), .val (.int .i64), .val (.int .i64)]), (1, .row 2 (.int .i64)), (2, .row 4 .bool)], 3, [0]⟩
def osh4kx0 : Shape := ⟨[(0, .pc 0 0), (5, .ref 1), (6, .ref 2)], [(0, .cell [.val (.sl 5 (.int .u8)), .val (.int .i64), .val (.int .i64)]), (1, .row 2 (.int .i64)), (2, .row 4 .bool)], 3, [0]⟩
def un4 : Int × Int × (List Int) × Int × Int × (List Int) × (List Bool) → sh4.V := fun (x4, x7, z0_0, z0_1, z0_2, y1, y2) => (((), (x4, ((), ((), (x7, ()))))), ((z0_0, (z0_1, (z0_2, ()))), (y1, (y2, ()))))
def fl4 : sh4.V → Int × Int × (List Int) × Int × Int × (List Int) × (List Bool) := fun ((_, (x4, (_, (_, (x7, _))))), ((z0_0, (z0_1, (z0_2, _))), (y1, (y2, _)))) => (x4, x7, z0_0, z0_1, z0_2, y1, y2)
def sh15 : Shape := ⟨[(5, .ref 1), (6, .ref 2), (8, .val (.int .i64))], [(0, .cell [.val (.sl 5 (.int .u8)), .val (.int .i64), .val (.int .i64)]), (1, .row 2 (.int .i64)), (2, .row 4 .bool)], 3, [0]⟩
def osh15kx3 : Shape := ⟨[(5, .ref 1), (6, .ref 2)], [(0, .cell [.val (.sl 5 (.int .u8)), .val (.int .i64), .val (.int .i64)]), (1, .row 2 (.int .i64)), (2, .row 4 .bool)], 3, [0]⟩
def un15 : Int × (List Int) × Int × Int × (List Int) × (List Bool) → sh15.V := fun (x8, z0_0, z0_1, z0_2, y1, y2) => (((), ((), (x8, ()))), ((z0_0, (z0_1, (z0_2, ()))), (y1, (y2, ()))))
def fl15 : sh15.V → Int × (List Int) × Int × Int × (List Int) × (List Bool) := fun ((_, (_, (x8, _))), ((z0_0, (z0_1, (z0_2, _))), (y1, (y2, _)))) => (x8, z0_0, z0_1, z0_2, y1, y2)
def sh22 : Shape := ⟨[(5, .ref 1), (6, .ref 2), (9, .val (.int .i64))], [(0, .cell [.val (.sl 5 (.int .u8)), .val (.int .i64), .val (.int .i64)]), (1, .row 2 (.int .i64)), (2, .row 4 .bool)], 3, [0]⟩
def osh22kx5 : Shape := ⟨[(5, .ref 1), (6, .ref 2)], [(0, .cell [.val (.sl 5 (.int .u8)), .val (.int .i64), .val (.int .i64)]), (1, .row 2 (.int .i64)), (2, .row 4 .bool)], 3, [0]⟩
def un22 : Int × (List Int) × Int × Int × (List Int) × (List Bool) → sh22.V := fun (x9, z0_0, z0_1, z0_2, y1, y2) => (((), ((), (x9, ()))), ((z0_0, (z0_1, (z0_2, ()))), (y1, (y2, ()))))
def fl22 : sh22.V → Int × (List Int) × Int × Int × (List Int) × (List Bool) := fun ((_, (_, (x9, _))), ((z0_0, (z0_1, (z0_2, _))), (y1, (y2, _)))) => (x9, z0_0, z0_1, z0_2, y1, y2)
def L (k : Nat) (q : Nat) (s : St) (K : AExit → St → Option R) : Option R := bif Nat.beq q 4 then (match sh4.dec s with | some v => l4 (R := R) k k (fl4 v) (fun (z0_0, z0_1, z0_2, y1, y2) => K (.exit 0) (osh4kx0.enc (((), ((), ((), ()))), ((z0_0, (z0_1, (z0_2, ()))), (y1, (y2, ())))))) | none => none) else (bif Nat.beq q 15 then (match sh15.dec s with | some v => l15 (R := R) k k (fl15 v) (fun (z0_0, z0_1, z0_2, y1, y2) => K (.exit 3) (osh15kx3.enc (((), ((), ())), ((z0_0, (z0_1, (z0_2, ()))), (y1, (y2, ())))))) | none => none) else (bif Nat.beq q 22 then (match sh22.dec s with | some v => l22 (R := R) k k (fl22 v) (fun (z0_0, z0_1, z0_2, y1, y2) => K (.exit 5) (osh22kx5.enc (((), ((), ())), ((z0_0, (z0_1, (z0_2, ()))), (y1, (y2, ())))))) | none => none) else (none)))
def J (k : Nat) : Inl R := noInl
theorem step4 (k n : Nat) (K : AExit → St → Option R) : ∀ v, aloop (aexec (env k) (J k) (L k) ((findLoop 4 (codeOf Try.f61)).getD .skip)) (normSt [(0, .asis), (4, .asis), (5, .asis), (6, .asis), (7, .asis)]) (normSt [(0, .asis), (5, .asis), (6, .asis)]) K (n + 1) (sh4.enc (un4 v)) = s4 (R := R) k (fun w => aloop (aexec (env k) (J k) (L k) ((findLoop 4 (codeOf Try.f61)).getD .skip)) (normSt [(0, .asis), (4, .asis), (5, .asis), (6, .asis), (7, .asis)]) (normSt [(0, .asis), (5, .asis), (6, .asis)]) K n (sh4.enc (un4 w))) (fun (z0_0, z0_1, z0_2, y1, y2) => K (.exit 0) (osh4kx0.enc (((), ((), ((), ()))), ((z0_0, (z0_1, (z0_2, ()))), (y1, (y2, ())))))) v := by intro v; kernel_rfl
theorem step15 (k n : Nat) (K : AExit → St → Option R) : ∀ v, aloop (aexec (env k) (J k) (L k) ((findLoop 15 (codeOf Try.f61)).getD .skip)) (normSt [(5, .asis), (6, .asis), (8, .asis)]) (normSt [(5, .asis), (6, .asis)]) K (n + 1) (sh15.enc (un15 v)) = s15 (R := R) k (fun w => aloop (aexec (env k) (J k) (L k) ((findLoop 15 (codeOf Try.f61)).getD .skip)) (normSt [(5, .asis), (6, .asis), (8, .asis)]) (normSt [(5, .asis), (6, .asis)]) K n (sh15.enc (un15 w))) (fun (z0_0, z0_1, z0_2, y1, y2) => K (.exit 3) (osh15kx3.enc (((), ((), ())), ((z0_0, (z0_1, (z0_2, ()))), (y1, (y2, ())))))) v := by intro v; kernel_rfl
theorem step22 (k n : Nat) (K : AExit → St → Option R) : ∀ v, aloop (aexec (env k) (J k) (L k) ((findLoop 22 (codeOf Try.f61)).getD .skip)) (normSt [(5, .asis), (6, .asis), (9, .asis)]) (normSt [(5, .asis), (6, .asis)]) K (n + 1) (sh22.enc (un22 v)) = s22 (R := R) k (fun w => aloop (aexec (env k) (J k) (L k) ((findLoop 22 (codeOf Try.f61)).getD .skip)) (normSt [(5, .asis), (6, .asis), (9, .asis)]) (normSt [(5, .asis), (6, .asis)]) K n (sh22.enc (un22 w))) (fun (z0_0, z0_1, z0_2, y1, y2) => K (.exit 5) (osh22kx5.enc (((), ((), ())), ((z0_0, (z0_1, (z0_2, ()))), (y1, (y2, ())))))) v := by intro v; kernel_rfl
theorem eq (k : Nat) : ∀ a, aexec (env k) (J k) (L k) (codeOf Try.f61) (begSt [.ptr (.pair (.sl 5 (.int .u8)) (.pair (.int .i64) (.pair (.int .i64) .unit)))] a) (finK (env k) Try.f61 [.ptr (.pair (.sl 5 (.int .u8)) (.pair (.int .i64) (.pair (.int .i64) .unit)))] [.stb (.sl 2 (.int .i64)), .own (.sl 4 .bool)]) = (entry k).fn a := by intro a; kernel_rfl
theorem run4 (k : Nat) (K : AExit → St → Option R) : ∀ n v, aloop (aexec (env k) (J k) (L k) ((findLoop 4 (codeOf Try.f61)).getD .skip)) (normSt [(0, .asis), (4, .asis), (5, .asis), (6, .asis), (7, .asis)]) (normSt [(0, .asis), (5, .asis), (6, .asis)]) K n (sh4.enc (un4 v)) = l4 (R := R) k n v (fun (z0_0, z0_1, z0_2, y1, y2) => K (.exit 0) (osh4kx0.enc (((), ((), ((), ()))), ((z0_0, (z0_1, (z0_2, ()))), (y1, (y2, ())))))) := loop_eq (fun n v => aloop (aexec (env k) (J k) (L k) ((findLoop 4 (codeOf Try.f61)).getD .skip)) (normSt [(0, .asis), (4, .asis), (5, .asis), (6, .asis), (7, .asis)]) (normSt [(0, .asis), (5, .asis), (6, .asis)]) K n (sh4.enc (un4 v))) (fun n v => l4 (R := R) k n v (fun (z0_0, z0_1, z0_2, y1, y2) => K (.exit 0) (osh4kx0.enc (((), ((), ((), ()))), ((z0_0, (z0_1, (z0_2, ()))), (y1, (y2, ()))))))) (fun X v => s4 (R := R) k X (fun (z0_0, z0_1, z0_2, y1, y2) => K (.exit 0) (osh4kx0.enc (((), ((), ((), ()))), ((z0_0, (z0_1, (z0_2, ()))), (y1, (y2, ())))))) v) (fun _ => rfl) (fun n v => step4 k n K v) (fun n v => rfl)
theorem run15 (k : Nat) (K : AExit → St → Option R) : ∀ n v, aloop (aexec (env k) (J k) (L k) ((findLoop 15 (codeOf Try.f61)).getD .skip)) (normSt [(5, .asis), (6, .asis), (8, .asis)]) (normSt [(5, .asis), (6, .asis)]) K n (sh15.enc (un15 v)) = l15 (R := R) k n v (fun (z0_0, z0_1, z0_2, y1, y2) => K (.exit 3) (osh15kx3.enc (((), ((), ())), ((z0_0, (z0_1, (z0_2, ()))), (y1, (y2, ())))))) := loop_eq (fun n v => aloop (aexec (env k) (J k) (L k) ((findLoop 15 (codeOf Try.f61)).getD .skip)) (normSt [(5, .asis), (6, .asis), (8, .asis)]) (normSt [(5, .asis), (6, .asis)]) K n (sh15.enc (un15 v))) (fun n v => l15 (R := R) k n v (fun (z0_0, z0_1, z0_2, y1, y2) => K (.exit 3) (osh15kx3.enc (((), ((), ())), ((z0_0, (z0_1, (z0_2, ()))), (y1, (y2, ()))))))) (fun X v => s15 (R := R) k X (fun (z0_0, z0_1, z0_2, y1, y2) => K (.exit 3) (osh15kx3.enc (((), ((), ())), ((z0_0, (z0_1, (z0_2, ()))), (y1, (y2, ())))))) v) (fun _ => rfl) (fun n v => step15 k n K v) (fun n v => rfl)
theorem run22 (k : Nat) (K : AExit → St → Option R) : ∀ n v, aloop (aexec (env k) (J k) (L k) ((findLoop 22 (codeOf Try.f61)).getD .skip)) (normSt [(5, .asis), (6, .asis), (9, .asis)]) (normSt [(5, .asis), (6, .asis)]) K n (sh22.enc (un22 v)) = l22 (R := R) k n v (fun (z0_0, z0_1, z0_2, y1, y2) => K (.exit 5) (osh22kx5.enc (((), ((), ())), ((z0_0, (z0_1, (z0_2, ()))), (y1, (y2, ())))))) := loop_eq (fun n v => aloop (aexec (env k) (J k) (L k) ((findLoop 22 (codeOf Try.f61)).getD .skip)) (normSt [(5, .asis), (6, .asis), (9, .asis)]) (normSt [(5, .asis), (6, .asis)]) K n (sh22.enc (un22 v))) (fun n v => l22 (R := R) k n v (fun (z0_0, z0_1, z0_2, y1, y2) => K (.exit 5) (osh22kx5.enc (((), ((), ())), ((z0_0, (z0_1, (z0_2, ()))), (y1, (y2, ()))))))) (fun X v => s22 (R := R) k X (fun (z0_0, z0_1, z0_2, y1, y2) => K (.exit 5) (osh22kx5.enc (((), ((), ())), ((z0_0, (z0_1, (z0_2, ()))), (y1, (y2, ())))))) v) (fun _ => rfl) (fun n v => step22 k n K v) (fun n v => rfl)
theorem loops (k : Nat) : LoopsOk (env k) (J k) (L k) (codeOf Try.f61) := by
  intro c an hc han s K r h
  unfold L at h
  by_cases q4 : firstRegion c = 4
  · have h1 := key_eq q4 h
    rw [q4] at hc han
    have e2 : an = ⟨[(0, .asis), (4, .asis), (5, .asis), (6, .asis), (7, .asis)], [(0, .asis), (5, .asis), (6, .asis)]⟩ := (Option.some.inj (show some _ = some an from han)).symm
    have e1 : c = (findLoop 4 (codeOf Try.f61)).getD .skip := by rw [hc]; rfl
    cases hd : sh4.dec s with
    | none => rw [hd] at h1; cases h1
    | some v =>
      rw [hd] at h1
      refine ⟨k, ?_⟩
      rw [e1, e2, Shape.dec_enc _ _ _ hd]
      exact (run4 k K k (fl4 v)).trans h1
  have h := not_key q4 h
  by_cases q15 : firstRegion c = 15
  · have h1 := key_eq q15 h
    rw [q15] at hc han
    have e2 : an = ⟨[(5, .asis), (6, .asis), (8, .asis)], [(5, .asis), (6, .asis)]⟩ := (Option.some.inj (show some _ = some an from han)).symm
    have e1 : c = (findLoop 15 (codeOf Try.f61)).getD .skip := by rw [hc]; rfl
    cases hd : sh15.dec s with
    | none => rw [hd] at h1; cases h1
    | some v =>
      rw [hd] at h1
      refine ⟨k, ?_⟩
      rw [e1, e2, Shape.dec_enc _ _ _ hd]
      exact (run15 k K k (fl15 v)).trans h1
  have h := not_key q15 h
  by_cases q22 : firstRegion c = 22
  · have h1 := key_eq q22 h
    rw [q22] at hc han
    have e2 : an = ⟨[(5, .asis), (6, .asis), (9, .asis)], [(5, .asis), (6, .asis)]⟩ := (Option.some.inj (show some _ = some an from han)).symm
    have e1 : c = (findLoop 22 (codeOf Try.f61)).getD .skip := by rw [hc]; rfl
    cases hd : sh22.dec s with
    | none => rw [hd] at h1; cases h1
    | some v =>
      rw [hd] at h1
      refine ⟨k, ?_⟩
      rw [e1, e2, Shape.dec_enc _ _ _ hd]
      exact (run22 k K k (fl22 v)).trans h1
  have h := not_key q22 h
  cases h
theorem fit (k : Nat) : codeFit (env k) (codeOf Try.f61) = true := by kernel_rfl
theorem lps : (loopsIn (codeOf Try.f61)).map (fun d => findLoop (firstRegion d) (codeOf Try.f61)) = (loopsIn (codeOf Try.f61)).map some := by kernel_rfl
theorem hf : Try.prog.funcs[61]? = some Try.f61 := by kernel_rfl
theorem hb : Try.f61.body = some (codeOf Try.f61) := by kernel_rfl
theorem hn : (Try.f61.name == "runtime.NumGoroutine") = false := by kernel_rfl
theorem hJ (k : Nat) : ∀ C : Ctx, C.P = Try.prog → ∀ r, InlOk C (J k) r := fun C hC r => noInl_ok
theorem sound (k : Nat) : Sound Try.prog 61 (entry k) := func_sound (E := env k) (by kernel_rfl) (by kernel_rfl) (by kernel_rfl) (by kernel_rfl) (tbl_cons (spec_l01Next.sound k) (tbl_cons (spec_l01Pick.sound k) tbl_nil)) hf hb hn (fit k) (loops_all lps) (hJ k) (loops k) (eq k)
end spec_l12Draw

namespace spec_DrawShareIn
def entry (k : Nat) : Entry := ⟨[.ro (.sl 5 (.int .u8))], [.stb (.sl 2 (.int .i64)), .own (.sl 4 .bool), .own (.int .i64)], fun (a0, _) => f k a0⟩
def tbl (k : Nat) : List (Nat × Option Entry) := [(61, some (spec_l12Draw.entry k)), (65, some (spec_l01Next.entry k))]
abbrev R := Res [.stb (.sl 2 (.int .i64)), .own (.sl 4 .bool), .own (.int .i64)] × Outs [.ro (.sl 5 (.int .u8))]
def env (k : Nat) : Env := ⟨Try.prog, 20, AM.look none (tbl k), AM.look none []⟩
def L (k : Nat) (q : Nat) (s : St) (K : AExit → St → Option R) : Option R := none
def i1001_env (k : Nat) : Env := ⟨Try.prog, 34, AM.look none (tbl k), AM.look none [(3, some ⟨[(0, .asis), (3, .asis), (4, .asis)], [(3, .asis)]⟩)]⟩
def shi1001_3 : Shape := ⟨[(0, .val (.sl 5 (.int .u8))), (3, .pc 0 0), (4, .val (.int .i64))], [(0, .cell [.val (.sl 5 (.int .u8)), .val (.int .i64), .val (.int .i64)])], 1, []⟩
def oshi1001_3kx0 : Shape := ⟨[(3, .pc 0 0)], [(0, .cell [.val (.sl 5 (.int .u8)), .val (.int .i64), .val (.int .i64)])], 1, []⟩
def uni1001_3 : (List Int) × Int × (List Int) × Int × Int → shi1001_3.V := fun (x0, x4, z0_0, z0_1, z0_2) => ((x0, ((), (x4, ()))), ((z0_0, (z0_1, (z0_2, ()))), ()))
def fli1001_3 : shi1001_3.V → (List Int) × Int × (List Int) × Int × Int := fun ((x0, (_, (x4, _))), ((z0_0, (z0_1, (z0_2, _))), _)) => (x0, x4, z0_0, z0_1, z0_2)
def i1001_L (k : Nat) (q : Nat) (s : St) (K : AExit → St → Option R) : Option R := bif Nat.beq q 3 then (match shi1001_3.dec s with | some v => i1001_l3 (R := R) k k (fli1001_3 v) (fun (z0_0, z0_1, z0_2) => K (.exit 0) (oshi1001_3kx0.enc (((), ()), ((z0_0, (z0_1, (z0_2, ()))), ())))) | none => none) else (none)
def i1001_J (k : Nat) : Inl R := noInl
def J (k : Nat) : Inl R := (inlCons 1001 62 (inst (i1001_env k) (i1001_J k) (i1001_L k) Try.f62 []) noInl)
theorem stepi1001_3 (k n : Nat) (K : AExit → St → Option R) : ∀ v, aloop (aexec (i1001_env k) (i1001_J k) (i1001_L k) ((findLoop 3 (codeOf Try.f62)).getD .skip)) (normSt [(0, .asis), (3, .asis), (4, .asis)]) (normSt [(3, .asis)]) K (n + 1) (shi1001_3.enc (uni1001_3 v)) = i1001_s3 (R := R) k (fun w => aloop (aexec (i1001_env k) (i1001_J k) (i1001_L k) ((findLoop 3 (codeOf Try.f62)).getD .skip)) (normSt [(0, .asis), (3, .asis), (4, .asis)]) (normSt [(3, .asis)]) K n (shi1001_3.enc (uni1001_3 w))) (fun (z0_0, z0_1, z0_2) => K (.exit 0) (oshi1001_3kx0.enc (((), ()), ((z0_0, (z0_1, (z0_2, ()))), ())))) v := by intro v; kernel_rfl
theorem eq (k : Nat) : ∀ a, aexec (env k) (J k) (L k) (codeOf Try.f43) (begSt [.ro (.sl 5 (.int .u8))] a) (finK (env k) Try.f43 [.ro (.sl 5 (.int .u8))] [.stb (.sl 2 (.int .i64)), .own (.sl 4 .bool), .own (.int .i64)]) = (entry k).fn a := by intro a; kernel_rfl
theorem loops (k : Nat) : LoopsOk (env k) (J k) (L k) (codeOf Try.f43) := by
  intro c an hc han s K r h
  unfold L at h
  cases h
theorem runi1001_3 (k : Nat) (K : AExit → St → Option R) : ∀ n v, aloop (aexec (i1001_env k) (i1001_J k) (i1001_L k) ((findLoop 3 (codeOf Try.f62)).getD .skip)) (normSt [(0, .asis), (3, .asis), (4, .asis)]) (normSt [(3, .asis)]) K n (shi1001_3.enc (uni1001_3 v)) = i1001_l3 (R := R) k n v (fun (z0_0, z0_1, z0_2) => K (.exit 0) (oshi1001_3kx0.enc (((), ()), ((z0_0, (z0_1, (z0_2, ()))), ())))) := loop_eq (fun n v => aloop (aexec (i1001_env k) (i1001_J k) (i1001_L k) ((findLoop 3 (codeOf Try.f62)).getD .skip)) (normSt [(0, .asis), (3, .asis), (4, .asis)]) (normSt [(3, .asis)]) K n (shi1001_3.enc (uni1001_3 v))) (fun n v => i1001_l3 (R := R) k n v (fun (z0_0, z0_1, z0_2) => K (.exit 0) (oshi1001_3kx0.enc (((), ()), ((z0_0, (z0_1, (z0_2, ()))), ()))))) (fun X v => i1001_s3 (R := R) k X (fun (z0_0, z0_1, z0_2) => K (.exit 0) (oshi1001_3kx0.enc (((), ()), ((z0_0, (z0_1, (z0_2, ()))), ())))) v) (fun _ => rfl) (fun n v => stepi1001_3 k n K v) (fun n v => rfl)
theorem i1001_loops (k : Nat) : LoopsOk (i1001_env k) (i1001_J k) (i1001_L k) (codeOf Try.f62) := by
  intro c an hc han s K r h
  unfold i1001_L at h
  by_cases q3 : firstRegion c = 3
  · have h1 := key_eq q3 h
    rw [q3] at hc han
    have e2 : an = ⟨[(0, .asis), (3, .asis), (4, .asis)], [(3, .asis)]⟩ := (Option.some.inj (show some _ = some an from han)).symm
    have e1 : c = (findLoop 3 (codeOf Try.f62)).getD .skip := by rw [hc]; rfl
    cases hd : shi1001_3.dec s with
    | none => rw [hd] at h1; cases h1
    | some v =>
      rw [hd] at h1
      refine ⟨k, ?_⟩
      rw [e1, e2, Shape.dec_enc _ _ _ hd]
      exact (runi1001_3 k K k (fli1001_3 v)).trans h1
  have h := not_key q3 h
  cases h
theorem i1001_fit (k : Nat) : codeFit (i1001_env k) (codeOf Try.f62) = true := by kernel_rfl
theorem i1001_lps : (loopsIn (codeOf Try.f62)).map (fun d => findLoop (firstRegion d) (codeOf Try.f62)) = (loopsIn (codeOf Try.f62)).map some := by kernel_rfl
theorem i1001_hf : Try.prog.funcs[62]? = some Try.f62 := by kernel_rfl
theorem i1001_hb : Try.f62.body = some (codeOf Try.f62) := by kernel_rfl
theorem i1001_hn : (Try.f62.name == "runtime.NumGoroutine") = false := by kernel_rfl
theorem i1001_hJ (k : Nat) : ∀ C : Ctx, C.P = Try.prog → ∀ r, InlOk C (i1001_J k) r := fun C hC r => noInl_ok
theorem i1001_one (k : Nat) (C : Ctx) (hC : C.P = Try.prog) (r : R) : OneOk C 62 (inst (i1001_env k) (i1001_J k) (i1001_L k) Try.f62 []) r := inst_ok hC (by kernel_rfl) (by kernel_rfl) (by kernel_rfl) (by kernel_rfl) (tbl_cons (spec_l12Draw.sound k) (tbl_cons (spec_l01Next.sound k) tbl_nil)) i1001_hf i1001_hb i1001_hn (i1001_fit k) (loops_all i1001_lps) (fun C hC => i1001_hJ k C hC r) (i1001_loops k)
theorem fit (k : Nat) : codeFit (env k) (codeOf Try.f43) = true := by kernel_rfl
theorem lps : (loopsIn (codeOf Try.f43)).map (fun d => findLoop (firstRegion d) (codeOf Try.f43)) = (loopsIn (codeOf Try.f43)).map some := by kernel_rfl
theorem hf : Try.prog.funcs[43]? = some Try.f43 := by kernel_rfl
theorem hb : Try.f43.body = some (codeOf Try.f43) := by kernel_rfl
theorem hn : (Try.f43.name == "runtime.NumGoroutine") = false := by kernel_rfl
theorem hJ (k : Nat) : ∀ C : Ctx, C.P = Try.prog → ∀ r, InlOk C (J k) r := fun C hC r => (inlCons_ok (i1001_one k C hC r) noInl_ok)
theorem sound (k : Nat) : Sound Try.prog 43 (entry k) := func_sound (E := env k) (by kernel_rfl) (by kernel_rfl) (by kernel_rfl) (by kernel_rfl) (tbl_cons (spec_l12Draw.sound k) (tbl_cons (spec_l01Next.sound k) tbl_nil)) hf hb hn (fit k) (loops_all lps) (hJ k) (loops k) (eq k)
end spec_DrawShareIn

namespace spec_DrawMainPot
def entry (k : Nat) : Entry := ⟨[.ro (.sl 5 (.int .u8))], [.stb (.sl 2 (.int .i64)), .own (.sl 4 .bool)], fun (a0, _) => f k a0⟩
def tbl (k : Nat) : List (Nat × Option Entry) := [(61, some (spec_l12Draw.entry k))]
abbrev R := Res [.stb (.sl 2 (.int .i64)), .own (.sl 4 .bool)] × Outs [.ro (.sl 5 (.int .u8))]
def env (k : Nat) : Env := ⟨Try.prog, 9, AM.look none (tbl k), AM.look none []⟩
def L (k : Nat) (q : Nat) (s : St) (K : AExit → St → Option R) : Option R := none
def i1001_env (k : Nat) : Env := ⟨Try.prog, 34, AM.look none (tbl k), AM.look none [(3, some ⟨[(0, .asis), (3, .asis), (4, .asis)], [(3, .asis)]⟩)]⟩
def shi1001_3 : Shape := ⟨[(0, .val (.sl 5 (.int .u8))), (3, .pc 0 0), (4, .val (.int .i64))], [(0, .cell [.val (.sl 5 (.int .u8)), .val (.int .i64), .val (.int .i64)])], 1, []⟩
def oshi1001_3kx0 : Shape := ⟨[(3, .pc 0 0)], [(0, .cell [.val (.sl 5 (.int .u8)), .val (.int .i64), .val (.int .i64)])], 1, []⟩
def uni1001_3 : (List Int) × Int × (List Int) × Int × Int → shi1001_3.V := fun (x0, x4, z0_0, z0_1, z0_2) => ((x0, ((), (x4, ()))), ((z0_0, (z0_1, (z0_2, ()))), ()))
def fli1001_3 : shi1001_3.V → (List Int) × Int × (List Int) × Int × Int := fun ((x0, (_, (x4, _))), ((z0_0, (z0_1, (z0_2, _))), _)) => (x0, x4, z0_0, z0_1, z0_2)
def i1001_L (k : Nat) (q : Nat) (s : St) (K : AExit → St → Option R) : Option R := bif Nat.beq q 3 then (match shi1001_3.dec s with | some v => i1001_l3 (R := R) k k (fli1001_3 v) (fun (z0_0, z0_1, z0_2) => K (.exit 0) (oshi1001_3kx0.enc (((), ()), ((z0_0, (z0_1, (z0_2, ()))), ())))) | none => none) else (none)
def i1001_J (k : Nat) : Inl R := noInl
def J (k : Nat) : Inl R := (inlCons 1001 62 (inst (i1001_env k) (i1001_J k) (i1001_L k) Try.f62 []) noInl)
theorem stepi1001_3 (k n : Nat) (K : AExit → St → Option R) : ∀ v, aloop (aexec (i1001_env k) (i1001_J k) (i1001_L k) ((findLoop 3 (codeOf Try.f62)).getD .skip)) (normSt [(0, .asis), (3, .asis), (4, .asis)]) (normSt [(3, .asis)]) K (n + 1) (shi1001_3.enc (uni1001_3 v)) = i1001_s3 (R := R) k (fun w => aloop (aexec (i1001_env k) (i1001_J k) (i1001_L k) ((findLoop 3 (codeOf Try.f62)).getD .skip)) (normSt [(0, .asis), (3, .asis), (4, .asis)]) (normSt [(3, .asis)]) K n (shi1001_3.enc (uni1001_3 w))) (fun (z0_0, z0_1, z0_2) => K (.exit 0) (oshi1001_3kx0.enc (((), ()), ((z0_0, (z0_1, (z0_2, ()))), ())))) v := by intro v; kernel_rfl
theorem eq (k : Nat) : ∀ a, aexec (env k) (J k) (L k) (codeOf Try.f44) (begSt [.ro (.sl 5 (.int .u8))] a) (finK (env k) Try.f44 [.ro (.sl 5 (.int .u8))] [.stb (.sl 2 (.int .i64)), .own (.sl 4 .bool)]) = (entry k).fn a := by intro a; kernel_rfl
theorem loops (k : Nat) : LoopsOk (env k) (J k) (L k) (codeOf Try.f44) := by
  intro c an hc han s K r h
  unfold L at h
  cases h
theorem runi1001_3 (k : Nat) (K : AExit → St → Option R) : ∀ n v, aloop (aexec (i1001_env k) (i1001_J k) (i1001_L k) ((findLoop 3 (codeOf Try.f62)).getD .skip)) (normSt [(0, .asis), (3, .asis), (4, .asis)]) (normSt [(3, .asis)]) K n (shi1001_3.enc (uni1001_3 v)) = i1001_l3 (R := R) k n v (fun (z0_0, z0_1, z0_2) => K (.exit 0) (oshi1001_3kx0.enc (((), ()), ((z0_0, (z0_1, (z0_2, ()))), ())))) := loop_eq (fun n v => aloop (aexec (i1001_env k) (i1001_J k) (i1001_L k) ((findLoop 3 (codeOf Try.f62)).getD .skip)) (normSt [(0, .asis), (3, .asis), (4, .asis)]) (normSt [(3, .asis)]) K n (shi1001_3.enc (uni1001_3 v))) (fun n v => i1001_l3 (R := R) k n v (fun (z0_0, z0_1, z0_2) => K (.exit 0) (oshi1001_3kx0.enc (((), ()), ((z0_0, (z0_1, (z0_2, ()))), ()))))) (fun X v => i1001_s3 (R := R) k X (fun (z0_0, z0_1, z0_2) => K (.exit 0) (oshi1001_3kx0.enc (((), ()), ((z0_0, (z0_1, (z0_2, ()))), ())))) v) (fun _ => rfl) (fun n v => stepi1001_3 k n K v) (fun n v => rfl)
theorem i1001_loops (k : Nat) : LoopsOk (i1001_env k) (i1001_J k) (i1001_L k) (codeOf Try.f62) := by
  intro c an hc han s K r h
  unfold i1001_L at h
  by_cases q3 : firstRegion c = 3
  · have h1 := key_eq q3 h
    rw [q3] at hc han
    have e2 : an = ⟨[(0, .asis), (3, .asis), (4, .asis)], [(3, .asis)]⟩ := (Option.some.inj (show some _ = some an from han)).symm
    have e1 : c = (findLoop 3 (codeOf Try.f62)).getD .skip := by rw [hc]; rfl
    cases hd : shi1001_3.dec s with
    | none => rw [hd] at h1; cases h1
    | some v =>
      rw [hd] at h1
      refine ⟨k, ?_⟩
      rw [e1, e2, Shape.dec_enc _ _ _ hd]
      exact (runi1001_3 k K k (fli1001_3 v)).trans h1
  have h := not_key q3 h
  cases h
theorem i1001_fit (k : Nat) : codeFit (i1001_env k) (codeOf Try.f62) = true := by kernel_rfl
theorem i1001_lps : (loopsIn (codeOf Try.f62)).map (fun d => findLoop (firstRegion d) (codeOf Try.f62)) = (loopsIn (codeOf Try.f62)).map some := by kernel_rfl
theorem i1001_hf : Try.prog.funcs[62]? = some Try.f62 := by kernel_rfl
theorem i1001_hb : Try.f62.body = some (codeOf Try.f62) := by kernel_rfl
theorem i1001_hn : (Try.f62.name == "runtime.NumGoroutine") = false := by kernel_rfl
theorem i1001_hJ (k : Nat) : ∀ C : Ctx, C.P = Try.prog → ∀ r, InlOk C (i1001_J k) r := fun C hC r => noInl_ok
theorem i1001_one (k : Nat) (C : Ctx) (hC : C.P = Try.prog) (r : R) : OneOk C 62 (inst (i1001_env k) (i1001_J k) (i1001_L k) Try.f62 []) r := inst_ok hC (by kernel_rfl) (by kernel_rfl) (by kernel_rfl) (by kernel_rfl) (tbl_cons (spec_l12Draw.sound k) tbl_nil) i1001_hf i1001_hb i1001_hn (i1001_fit k) (loops_all i1001_lps) (fun C hC => i1001_hJ k C hC r) (i1001_loops k)
theorem fit (k : Nat) : codeFit (env k) (codeOf Try.f44) = true := by kernel_rfl
theorem lps : (loopsIn (codeOf Try.f44)).map (fun d => findLoop (firstRegion d) (codeOf Try.f44)) = (loopsIn (codeOf Try.f44)).map some := by kernel_rfl
theorem hf : Try.prog.funcs[44]? = some Try.f44 := by kernel_rfl
theorem hb : Try.f44.body = some (codeOf Try.f44) := by kernel_rfl
theorem hn : (Try.f44.name == "runtime.NumGoroutine") = false := by kernel_rfl
theorem hJ (k : Nat) : ∀ C : Ctx, C.P = Try.prog → ∀ r, InlOk C (J k) r := fun C hC r => (inlCons_ok (i1001_one k C hC r) noInl_ok)
theorem sound (k : Nat) : Sound Try.prog 44 (entry k) := func_sound (E := env k) (by kernel_rfl) (by kernel_rfl) (by kernel_rfl) (by kernel_rfl) (tbl_cons (spec_l12Draw.sound k) tbl_nil) hf hb hn (fit k) (loops_all lps) (hJ k) (loops k) (eq k)
end spec_DrawMainPot

namespace spec_DrawRefundOf
def entry (k : Nat) : Entry := ⟨[.ro (.sl 5 (.int .u8))], [.stb (.sl 2 (.int .i64)), .own (.sl 4 .bool)], fun (a0, _) => f k a0⟩
def tbl (k : Nat) : List (Nat × Option Entry) := [(61, some (spec_l12Draw.entry k))]
abbrev R := Res [.stb (.sl 2 (.int .i64)), .own (.sl 4 .bool)] × Outs [.ro (.sl 5 (.int .u8))]
def env (k : Nat) : Env := ⟨Try.prog, 9, AM.look none (tbl k), AM.look none []⟩
def L (k : Nat) (q : Nat) (s : St) (K : AExit → St → Option R) : Option R := none
def i1001_env (k : Nat) : Env := ⟨Try.prog, 34, AM.look none (tbl k), AM.look none [(3, some ⟨[(0, .asis), (3, .asis), (4, .asis)], [(3, .asis)]⟩)]⟩
def shi1001_3 : Shape := ⟨[(0, .val (.sl 5 (.int .u8))), (3, .pc 0 0), (4, .val (.int .i64))], [(0, .cell [.val (.sl 5 (.int .u8)), .val (.int .i64), .val (.int .i64)])], 1, []⟩
def oshi1001_3kx0 : Shape := ⟨[(3, .pc 0 0)], [(0, .cell [.val (.sl 5 (.int .u8)), .val (.int .i64), .val (.int .i64)])], 1, []⟩
def uni1001_3 : (List Int) × Int × (List Int) × Int × Int → shi1001_3.V := fun (x0, x4, z0_0, z0_1, z0_2) => ((x0, ((), (x4, ()))), ((z0_0, (z0_1, (z0_2, ()))), ()))
def fli1001_3 : shi1001_3.V → (List Int) × Int × (List Int) × Int × Int := fun ((x0, (_, (x4, _))), ((z0_0, (z0_1, (z0_2, _))), _)) => (x0, x4, z0_0, z0_1, z0_2)
def i1001_L (k : Nat) (q : Nat) (s : St) (K : AExit → St → Option R) : Option R := bif Nat.beq q 3 then (match shi1001_3.dec s with | some v => i1001_l3 (R := R) k k (fli1001_3 v) (fun (z0_0, z0_1, z0_2) => K (.exit 0) (oshi1001_3kx0.enc (((), ()), ((z0_0, (z0_1, (z0_2, ()))), ())))) | none => none) else (none)
def i1001_J (k : Nat) : Inl R := noInl
def J (k : Nat) : Inl R := (inlCons 1001 62 (inst (i1001_env k) (i1001_J k) (i1001_L k) Try.f62 []) noInl)
theorem stepi1001_3 (k n : Nat) (K : AExit → St → Option R) : ∀ v, aloop (aexec (i1001_env k) (i1001_J k) (i1001_L k) ((findLoop 3 (codeOf Try.f62)).getD .skip)) (normSt [(0, .asis), (3, .asis), (4, .asis)]) (normSt [(3, .asis)]) K (n + 1) (shi1001_3.enc (uni1001_3 v)) = i1001_s3 (R := R) k (fun w => aloop (aexec (i1001_env k) (i1001_J k) (i1001_L k) ((findLoop 3 (codeOf Try.f62)).getD .skip)) (normSt [(0, .asis), (3, .asis), (4, .asis)]) (normSt [(3, .asis)]) K n (shi1001_3.enc (uni1001_3 w))) (fun (z0_0, z0_1, z0_2) => K (.exit 0) (oshi1001_3kx0.enc (((), ()), ((z0_0, (z0_1, (z0_2, ()))), ())))) v := by intro v; kernel_rfl
theorem eq (k : Nat) : ∀ a, aexec (env k) (J k) (L k) (codeOf Try.f45) (begSt [.ro (.sl 5 (.int .u8))] a) (finK (env k) Try.f45 [.ro (.sl 5 (.int .u8))] [.stb (.sl 2 (.int .i64)), .own (.sl 4 .bool)]) = (entry k).fn a := by intro a; kernel_rfl
theorem loops (k : Nat) : LoopsOk (env k) (J k) (L k) (codeOf Try.f45) := by
  intro c an hc han s K r h
  unfold L at h
  cases h
theorem runi1001_3 (k : Nat) (K : AExit → St → Option R) : ∀ n v, aloop (aexec (i1001_env k) (i1001_J k) (i1001_L k) ((findLoop 3 (codeOf Try.f62)).getD .skip)) (normSt [(0, .asis), (3, .asis), (4, .asis)]) (normSt [(3, .asis)]) K n (shi1001_3.enc (uni1001_3 v)) = i1001_l3 (R := R) k n v (fun (z0_0, z0_1, z0_2) => K (.exit 0) (oshi1001_3kx0.enc (((), ()), ((z0_0, (z0_1, (z0_2, ()))), ())))) := loop_eq (fun n v => aloop (aexec (i1001_env k) (i1001_J k) (i1001_L k) ((findLoop 3 (codeOf Try.f62)).getD .skip)) (normSt [(0, .asis), (3, .asis), (4, .asis)]) (normSt [(3, .asis)]) K n (shi1001_3.enc (uni1001_3 v))) (fun n v => i1001_l3 (R := R) k n v (fun (z0_0, z0_1, z0_2) => K (.exit 0) (oshi1001_3kx0.enc (((), ()), ((z0_0, (z0_1, (z0_2, ()))), ()))))) (fun X v => i1001_s3 (R := R) k X (fun (z0_0, z0_1, z0_2) => K (.exit 0) (oshi1001_3kx0.enc (((), ()), ((z0_0, (z0_1, (z0_2, ()))), ())))) v) (fun _ => rfl) (fun n v => stepi1001_3 k n K v) (fun n v => rfl)
theorem i1001_loops (k : Nat) : LoopsOk (i1001_env k) (i1001_J k) (i1001_L k) (codeOf Try.f62) := by
  intro c an hc han s K r h
  unfold i1001_L at h
  by_cases q3 : firstRegion c = 3
  · have h1 := key_eq q3 h
    rw [q3] at hc han
    have e2 : an = ⟨[(0, .asis), (3, .asis), (4, .asis)], [(3, .asis)]⟩ := (Option.some.inj (show some _ = some an from han)).symm
    have e1 : c = (findLoop 3 (codeOf Try.f62)).getD .skip := by rw [hc]; rfl
    cases hd : shi1001_3.dec s with
    | none => rw [hd] at h1; cases h1
    | some v =>
      rw [hd] at h1
      refine ⟨k, ?_⟩
      rw [e1, e2, Shape.dec_enc _ _ _ hd]
      exact (runi1001_3 k K k (fli1001_3 v)).trans h1
  have h := not_key q3 h
  cases h
theorem i1001_fit (k : Nat) : codeFit (i1001_env k) (codeOf Try.f62) = true := by kernel_rfl
theorem i1001_lps : (loopsIn (codeOf Try.f62)).map (fun d => findLoop (firstRegion d) (codeOf Try.f62)) = (loopsIn (codeOf Try.f62)).map some := by kernel_rfl
theorem i1001_hf : Try.prog.funcs[62]? = some Try.f62 := by kernel_rfl
theorem i1001_hb : Try.f62.body = some (codeOf Try.f62) := by kernel_rfl
theorem i1001_hn : (Try.f62.name == "runtime.NumGoroutine") = false := by kernel_rfl
theorem i1001_hJ (k : Nat) : ∀ C : Ctx, C.P = Try.prog → ∀ r, InlOk C (i1001_J k) r := fun C hC r => noInl_ok
theorem i1001_one (k : Nat) (C : Ctx) (hC : C.P = Try.prog) (r : R) : OneOk C 62 (inst (i1001_env k) (i1001_J k) (i1001_L k) Try.f62 []) r := inst_ok hC (by kernel_rfl) (by kernel_rfl) (by kernel_rfl) (by kernel_rfl) (tbl_cons (spec_l12Draw.sound k) tbl_nil) i1001_hf i1001_hb i1001_hn (i1001_fit k) (loops_all i1001_lps) (fun C hC => i1001_hJ k C hC r) (i1001_loops k)
theorem fit (k : Nat) : codeFit (env k) (codeOf Try.f45) = true := by kernel_rfl
theorem lps : (loopsIn (codeOf Try.f45)).map (fun d => findLoop (firstRegion d) (codeOf Try.f45)) = (loopsIn (codeOf Try.f45)).map some := by kernel_rfl
theorem hf : Try.prog.funcs[45]? = some Try.f45 := by kernel_rfl
theorem hb : Try.f45.body = some (codeOf Try.f45) := by kernel_rfl
theorem hn : (Try.f45.name == "runtime.NumGoroutine") = false := by kernel_rfl
theorem hJ (k : Nat) : ∀ C : Ctx, C.P = Try.prog → ∀ r, InlOk C (J k) r := fun C hC r => (inlCons_ok (i1001_one k C hC r) noInl_ok)
theorem sound (k : Nat) : Sound Try.prog 45 (entry k) := func_sound (E := env k) (by kernel_rfl) (by kernel_rfl) (by kernel_rfl) (by kernel_rfl) (tbl_cons (spec_l12Draw.sound k) tbl_nil) hf hb hn (fit k) (loops_all lps) (hJ k) (loops k) (eq k)
end spec_DrawRefundOf

namespace laws_likeInts
def entry (k : Nat) : Entry := ⟨[.ro (.sl 2 (.int .i64)), .ro (.sl 2 (.int .i64))], [.own .bool], fun (a0, (a1, _)) => f k a0 a1⟩
def tbl (k : Nat) : List (Nat × Option Entry) := []
abbrev R := Res [.own .bool] × Outs [.ro (.sl 2 (.int .i64)), .ro (.sl 2 (.int .i64))]
def env (k : Nat) : Env := ⟨Try.prog, 26, AM.look none (tbl k), AM.look none [(4, some ⟨[(0, .asis), (1, .asis), (5, .asis)], [(4, .asis)]⟩)]⟩
def sh4 : Shape := ⟨[(0, .val (.sl 2 (.int .i64))), (1, .val (.sl 2 (.int .i64))), (5, .val (.int .i64))], [], 0, []⟩
def osh4kx0 : Shape := ⟨[(4, .undef)], [], 0, []⟩
def osh4kr : Shape := ⟨[(4, .val .bool)], [], 0, []⟩
def un4 : (List Int) × (List Int) × Int → sh4.V := fun (x0, x1, x5) => ((x0, (x1, (x5, ()))), ())
def fl4 : sh4.V → (List Int) × (List Int) × Int := fun ((x0, (x1, (x5, _))), _) => (x0, x1, x5)
def L (k : Nat) (q : Nat) (s : St) (K : AExit → St → Option R) : Option R := bif Nat.beq q 4 then (match sh4.dec s with | some v => l4 (R := R) k k (fl4 v) (fun (_ : Unit) => K (.exit 0) (osh4kx0.enc (((), ()), ()))) (fun x4 => K .ret (osh4kr.enc ((x4, ()), ()))) | none => none) else (none)
def J (k : Nat) : Inl R := noInl
theorem step4 (k n : Nat) (K : AExit → St → Option R) : ∀ v, aloop (aexec (env k) (J k) (L k) ((findLoop 4 (codeOf Try.f46)).getD .skip)) (normSt [(0, .asis), (1, .asis), (5, .asis)]) (normSt [(4, .asis)]) K (n + 1) (sh4.enc (un4 v)) = s4 (R := R) k (fun w => aloop (aexec (env k) (J k) (L k) ((findLoop 4 (codeOf Try.f46)).getD .skip)) (normSt [(0, .asis), (1, .asis), (5, .asis)]) (normSt [(4, .asis)]) K n (sh4.enc (un4 w))) (fun (_ : Unit) => K (.exit 0) (osh4kx0.enc (((), ()), ()))) (fun x4 => K .ret (osh4kr.enc ((x4, ()), ()))) v := by intro v; kernel_rfl
theorem eq (k : Nat) : ∀ a, aexec (env k) (J k) (L k) (codeOf Try.f46) (begSt [.ro (.sl 2 (.int .i64)), .ro (.sl 2 (.int .i64))] a) (finK (env k) Try.f46 [.ro (.sl 2 (.int .i64)), .ro (.sl 2 (.int .i64))] [.own .bool]) = (entry k).fn a := by intro a; kernel_rfl
theorem run4 (k : Nat) (K : AExit → St → Option R) : ∀ n v, aloop (aexec (env k) (J k) (L k) ((findLoop 4 (codeOf Try.f46)).getD .skip)) (normSt [(0, .asis), (1, .asis), (5, .asis)]) (normSt [(4, .asis)]) K n (sh4.enc (un4 v)) = l4 (R := R) k n v (fun (_ : Unit) => K (.exit 0) (osh4kx0.enc (((), ()), ()))) (fun x4 => K .ret (osh4kr.enc ((x4, ()), ()))) := loop_eq (fun n v => aloop (aexec (env k) (J k) (L k) ((findLoop 4 (codeOf Try.f46)).getD .skip)) (normSt [(0, .asis), (1, .asis), (5, .asis)]) (normSt [(4, .asis)]) K n (sh4.enc (un4 v))) (fun n v => l4 (R := R) k n v (fun (_ : Unit) => K (.exit 0) (osh4kx0.enc (((), ()), ()))) (fun x4 => K .ret (osh4kr.enc ((x4, ()), ())))) (fun X v => s4 (R := R) k X (fun (_ : Unit) => K (.exit 0) (osh4kx0.enc (((), ()), ()))) (fun x4 => K .ret (osh4kr.enc ((x4, ()), ()))) v) (fun _ => rfl) (fun n v => step4 k n K v) (fun n v => rfl)
theorem loops (k : Nat) : LoopsOk (env k) (J k) (L k) (codeOf Try.f46) := by
  intro c an hc han s K r h
  unfold L at h
  by_cases q4 : firstRegion c = 4
  · have h1 := key_eq q4 h
    rw [q4] at hc han
    have e2 : an = ⟨[(0, .asis), (1, .asis), (5, .asis)], [(4, .asis)]⟩ := (Option.some.inj (show some _ = some an from han)).symm
    have e1 : c = (findLoop 4 (codeOf Try.f46)).getD .skip := by rw [hc]; rfl
    cases hd : sh4.dec s with
    | none => rw [hd] at h1; cases h1
    | some v =>
      rw [hd] at h1
      refine ⟨k, ?_⟩
      rw [e1, e2, Shape.dec_enc _ _ _ hd]
      exact (run4 k K k (fl4 v)).trans h1
  have h := not_key q4 h
  cases h
theorem fit (k : Nat) : codeFit (env k) (codeOf Try.f46) = true := by kernel_rfl
theorem lps : (loopsIn (codeOf Try.f46)).map (fun d => findLoop (firstRegion d) (codeOf Try.f46)) = (loopsIn (codeOf Try.f46)).map some := by kernel_rfl
theorem hf : Try.prog.funcs[46]? = some Try.f46 := by kernel_rfl
theorem hb : Try.f46.body = some (codeOf Try.f46) := by kernel_rfl
theorem hn : (Try.f46.name == "runtime.NumGoroutine") = false := by kernel_rfl
theorem hJ (k : Nat) : ∀ C : Ctx, C.P = Try.prog → ∀ r, InlOk C (J k) r := fun C hC r => noInl_ok
theorem sound (k : Nat) : Sound Try.prog 46 (entry k) := func_sound (E := env k) (by kernel_rfl) (by kernel_rfl) (by kernel_rfl) (by kernel_rfl) tbl_nil hf hb hn (fit k) (loops_all lps) (hJ k) (loops k) (eq k)
end laws_likeInts

namespace laws_FnShares
def entry (k : Nat) : Entry := ⟨[.ro (.sl 5 (.int .u8))], [.own .bool], fun (a0, _) => f k a0⟩
def tbl (k : Nat) : List (Nat × Option Entry) := [(24, some (impl_UncalledOf.entry k)), (25, some (spec_RefundOf.entry k)), (26, some (impl_RefundOf.entry k)), (29, some (impl_CountPots.entry k)), (30, some (spec_MainPot.entry k)), (31, some (impl_MainPot.entry k)), (32, some (spec_ShareIn.entry k)), (33, some (impl_ShareIn.entry k)), (34, some (laws_big.entry k)), (39, some (laws_sum.entry k)), (43, some (spec_DrawShareIn.entry k)), (44, some (spec_DrawMainPot.entry k)), (45, some (spec_DrawRefundOf.entry k)), (46, some (laws_likeInts.entry k))]
abbrev R := Res [.own .bool] × Outs [.ro (.sl 5 (.int .u8))]
def env (k : Nat) : Env := ⟨Try.prog, 181, AM.look none (tbl k), AM.look none []⟩
def L (k : Nat) (q : Nat) (s : St) (K : AExit → St → Option R) : Option R := none
def J (k : Nat) : Inl R := noInl
theorem eq (k : Nat) : ∀ a, aexec (env k) (J k) (L k) (codeOf Try.f12) (begSt [.ro (.sl 5 (.int .u8))] a) (finK (env k) Try.f12 [.ro (.sl 5 (.int .u8))] [.own .bool]) = (entry k).fn a := by intro a; kernel_rfl
theorem loops (k : Nat) : LoopsOk (env k) (J k) (L k) (codeOf Try.f12) := by
  intro c an hc han s K r h
  unfold L at h
  cases h
theorem fit (k : Nat) : codeFit (env k) (codeOf Try.f12) = true := by kernel_rfl
theorem lps : (loopsIn (codeOf Try.f12)).map (fun d => findLoop (firstRegion d) (codeOf Try.f12)) = (loopsIn (codeOf Try.f12)).map some := by kernel_rfl
theorem hf : Try.prog.funcs[12]? = some Try.f12 := by kernel_rfl
theorem hb : Try.f12.body = some (codeOf Try.f12) := by kernel_rfl
theorem hn : (Try.f12.name == "runtime.NumGoroutine") = false := by kernel_rfl
theorem hJ (k : Nat) : ∀ C : Ctx, C.P = Try.prog → ∀ r, InlOk C (J k) r := fun C hC r => noInl_ok
theorem sound (k : Nat) : Sound Try.prog 12 (entry k) := func_sound (E := env k) (by kernel_rfl) (by kernel_rfl) (by kernel_rfl) (by kernel_rfl) (tbl_cons (impl_UncalledOf.sound k) (tbl_cons (spec_RefundOf.sound k) (tbl_cons (impl_RefundOf.sound k) (tbl_cons (impl_CountPots.sound k) (tbl_cons (spec_MainPot.sound k) (tbl_cons (impl_MainPot.sound k) (tbl_cons (spec_ShareIn.sound k) (tbl_cons (impl_ShareIn.sound k) (tbl_cons (laws_big.sound k) (tbl_cons (laws_sum.sound k) (tbl_cons (spec_DrawShareIn.sound k) (tbl_cons (spec_DrawMainPot.sound k) (tbl_cons (spec_DrawRefundOf.sound k) (tbl_cons (laws_likeInts.sound k) tbl_nil)))))))))))))) hf hb hn (fit k) (loops_all lps) (hJ k) (loops k) (eq k)
end laws_FnShares
end Go.Sh

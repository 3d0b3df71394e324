/- Each Go function that the law reaches keeps the contract that its Lean function states; conditions: none. -/
import Derived.Test.YtipjcodpegpocaaA1
import Derived.Test.YtipjcodpegpocaaSFnSettled0
import Derived.Test.YtipjcodpegpocaaProg
import Derived.Test.YtipjcodpegpocaaPFnSettled0
noncomputable section
set_option linter.unusedVariables false
set_option maxRecDepth 100000
namespace Go.Sh
open Go Go.AM Go.Proofs
namespace spec_DrawNetResult
def entry (k : Nat) : Entry := ⟨[.ro (.sl 5 (.int .u8))], [.stb (.sl 2 (.int .i64)), .stb (.sl 2 (.int .i64))], fun (a0, _) => f k a0⟩
def tbl (k : Nat) : List (Nat × Option Entry) := [(43, some (spec_SettleHand.entry k)), (48, some (spec_DrawSettleHand.entry k)), (72, some (spec_l01Next.entry k)), (85, some (spec_l02Pick.entry k)), (86, some (spec_l01Own.entry k))]
abbrev R := Res [.stb (.sl 2 (.int .i64)), .stb (.sl 2 (.int .i64))] × Outs [.ro (.sl 5 (.int .u8))]
def env (k : Nat) : Env := ⟨Try.prog, 52, AM.look none (tbl k), AM.look none []⟩
def L (k : Nat) (q : Nat) (s : St) (K : AExit → St → Option R) : Option R := none
def i1001_env (k : Nat) : Env := ⟨Try.prog, 34, AM.look none (tbl k), AM.look none [(3, some ⟨[(0, .asis), (3, .asis), (4, .asis), (4096, .asis)], [(3, .asis), (4096, .asis)]⟩)]⟩
def shi1001_3 : Shape := ⟨[(0, .val (.sl 5 (.int .u8))), (3, .pc 0 0), (4, .val (.int .i64)), (4096, .val (.sl 5 (.int .u8)))], [(0, .cell [.val (.sl 5 (.int .u8)), .val (.int .i64), .val (.int .i64)])], 1, []⟩
def oshi1001_3kx0 : Shape := ⟨[(3, .pc 0 0), (4096, .val (.sl 5 (.int .u8)))], [(0, .cell [.val (.sl 5 (.int .u8)), .val (.int .i64), .val (.int .i64)])], 1, []⟩
def uni1001_3 : (List Int) × Int × (List Int) × (List Int) × Int × Int → shi1001_3.V := fun (x0, x4, x4096, z0_0, z0_1, z0_2) => ((x0, ((), (x4, (x4096, ())))), ((z0_0, (z0_1, (z0_2, ()))), ()))
def fli1001_3 : shi1001_3.V → (List Int) × Int × (List Int) × (List Int) × Int × Int := fun ((x0, (_, (x4, (x4096, _)))), ((z0_0, (z0_1, (z0_2, _))), _)) => (x0, x4, x4096, z0_0, z0_1, z0_2)
def i1001_L (k : Nat) (q : Nat) (s : St) (K : AExit → St → Option R) : Option R := bif Nat.beq q 3 then (match shi1001_3.dec s with | some v => i1001_l3 (R := R) k k (fli1001_3 v) (fun (x4096, z0_0, z0_1, z0_2) => K (.exit 0) (oshi1001_3kx0.enc (((), (x4096, ())), ((z0_0, (z0_1, (z0_2, ()))), ())))) | none => none) else (none)
def i1001_J (k : Nat) : Inl R := noInl
def J (k : Nat) : Inl R := (inlCons 1001 69 (inst (i1001_env k) (i1001_J k) (i1001_L k) Try.f69 [0]) noInl)
theorem stepi1001_3 (k n : Nat) (K : AExit → St → Option R) : ∀ v, aloop (aexec (i1001_env k) (i1001_J k) (i1001_L k) ((findLoop 3 (codeOf Try.f69)).getD .skip)) (normSt [(0, .asis), (3, .asis), (4, .asis), (4096, .asis)]) (normSt [(3, .asis), (4096, .asis)]) K (n + 1) (shi1001_3.enc (uni1001_3 v)) = i1001_s3 (R := R) k (fun w => aloop (aexec (i1001_env k) (i1001_J k) (i1001_L k) ((findLoop 3 (codeOf Try.f69)).getD .skip)) (normSt [(0, .asis), (3, .asis), (4, .asis), (4096, .asis)]) (normSt [(3, .asis), (4096, .asis)]) K n (shi1001_3.enc (uni1001_3 w))) (fun (x4096, z0_0, z0_1, z0_2) => K (.exit 0) (oshi1001_3kx0.enc (((), (x4096, ())), ((z0_0, (z0_1, (z0_2, ()))), ())))) v := by intro v; kernel_rfl
theorem eq (k : Nat) : ∀ a, aexec (env k) (J k) (L k) (codeOf Try.f49) (begSt [.ro (.sl 5 (.int .u8))] a) (finK (env k) Try.f49 [.ro (.sl 5 (.int .u8))] [.stb (.sl 2 (.int .i64)), .stb (.sl 2 (.int .i64))]) = (entry k).fn a := by intro a; kernel_rfl
theorem loops (k : Nat) : LoopsOk (env k) (J k) (L k) (codeOf Try.f49) := by
  intro c an hc han s K r h
  unfold L at h
  cases h
theorem runi1001_3 (k : Nat) (K : AExit → St → Option R) : ∀ n v, aloop (aexec (i1001_env k) (i1001_J k) (i1001_L k) ((findLoop 3 (codeOf Try.f69)).getD .skip)) (normSt [(0, .asis), (3, .asis), (4, .asis), (4096, .asis)]) (normSt [(3, .asis), (4096, .asis)]) K n (shi1001_3.enc (uni1001_3 v)) = i1001_l3 (R := R) k n v (fun (x4096, z0_0, z0_1, z0_2) => K (.exit 0) (oshi1001_3kx0.enc (((), (x4096, ())), ((z0_0, (z0_1, (z0_2, ()))), ())))) := loop_eq (fun n v => aloop (aexec (i1001_env k) (i1001_J k) (i1001_L k) ((findLoop 3 (codeOf Try.f69)).getD .skip)) (normSt [(0, .asis), (3, .asis), (4, .asis), (4096, .asis)]) (normSt [(3, .asis), (4096, .asis)]) K n (shi1001_3.enc (uni1001_3 v))) (fun n v => i1001_l3 (R := R) k n v (fun (x4096, z0_0, z0_1, z0_2) => K (.exit 0) (oshi1001_3kx0.enc (((), (x4096, ())), ((z0_0, (z0_1, (z0_2, ()))), ()))))) (fun X v => i1001_s3 (R := R) k X (fun (x4096, z0_0, z0_1, z0_2) => K (.exit 0) (oshi1001_3kx0.enc (((), (x4096, ())), ((z0_0, (z0_1, (z0_2, ()))), ())))) v) (fun _ => rfl) (fun n v => stepi1001_3 k n K v) (fun n v => rfl)
theorem i1001_loops (k : Nat) : LoopsOk (i1001_env k) (i1001_J k) (i1001_L k) (codeOf Try.f69) := by
  intro c an hc han s K r h
  unfold i1001_L at h
  by_cases q3 : firstRegion c = 3
  · have h1 := key_eq q3 h
    rw [q3] at hc han
    have e2 : an = ⟨[(0, .asis), (3, .asis), (4, .asis), (4096, .asis)], [(3, .asis), (4096, .asis)]⟩ := (Option.some.inj (show some _ = some an from han)).symm
    have e1 : c = (findLoop 3 (codeOf Try.f69)).getD .skip := by rw [hc]; rfl
    cases hd : shi1001_3.dec s with
    | none => rw [hd] at h1; cases h1
    | some v =>
      rw [hd] at h1
      refine ⟨k, ?_⟩
      rw [e1, e2, Shape.dec_enc _ _ _ hd]
      exact (runi1001_3 k K k (fli1001_3 v)).trans h1
  have h := not_key q3 h
  cases h
theorem i1001_fit (k : Nat) : codeFit (i1001_env k) (codeOf Try.f69) = true := by kernel_rfl
theorem i1001_lps : (loopsIn (codeOf Try.f69)).map (fun d => findLoop (firstRegion d) (codeOf Try.f69)) = (loopsIn (codeOf Try.f69)).map some := by kernel_rfl
theorem i1001_hf : Try.prog.funcs[69]? = some Try.f69 := by kernel_rfl
theorem i1001_hb : Try.f69.body = some (codeOf Try.f69) := by kernel_rfl
theorem i1001_hn : (Try.f69.name == "runtime.NumGoroutine") = false := by kernel_rfl
theorem i1001_hJ (k : Nat) : ∀ C : Ctx, C.P = Try.prog → ∀ r, InlOk C (i1001_J k) r := fun C hC r => noInl_ok
theorem i1001_one (k : Nat) (C : Ctx) (hC : C.P = Try.prog) (r : R) : OneOk C 69 (inst (i1001_env k) (i1001_J k) (i1001_L k) Try.f69 [0]) r := inst_ok hC (by kernel_rfl) (by kernel_rfl) (by kernel_rfl) (by kernel_rfl) (tbl_cons (spec_SettleHand.sound k) (tbl_cons (spec_DrawSettleHand.sound k) (tbl_cons (spec_l01Next.sound k) (tbl_cons (spec_l02Pick.sound k) (tbl_cons (spec_l01Own.sound k) tbl_nil))))) i1001_hf i1001_hb i1001_hn (i1001_fit k) (loops_all i1001_lps) (fun C hC => i1001_hJ k C hC r) (i1001_loops k)
theorem fit (k : Nat) : codeFit (env k) (codeOf Try.f49) = true := by kernel_rfl
theorem lps : (loopsIn (codeOf Try.f49)).map (fun d => findLoop (firstRegion d) (codeOf Try.f49)) = (loopsIn (codeOf Try.f49)).map some := by kernel_rfl
theorem hf : Try.prog.funcs[49]? = some Try.f49 := by kernel_rfl
theorem hb : Try.f49.body = some (codeOf Try.f49) := by kernel_rfl
theorem hn : (Try.f49.name == "runtime.NumGoroutine") = false := by kernel_rfl
theorem hJ (k : Nat) : ∀ C : Ctx, C.P = Try.prog → ∀ r, InlOk C (J k) r := fun C hC r => (inlCons_ok (i1001_one k C hC r) noInl_ok)
theorem sound (k : Nat) : Sound Try.prog 49 (entry k) := func_sound (E := env k) (by kernel_rfl) (by kernel_rfl) (by kernel_rfl) (by kernel_rfl) (tbl_cons (spec_SettleHand.sound k) (tbl_cons (spec_DrawSettleHand.sound k) (tbl_cons (spec_l01Next.sound k) (tbl_cons (spec_l02Pick.sound k) (tbl_cons (spec_l01Own.sound k) tbl_nil))))) hf hb hn (fit k) (loops_all lps) (hJ k) (loops k) (eq k)
end spec_DrawNetResult

namespace impl_sumOf
def entry (k : Nat) : Entry := ⟨[.ro (.sl 2 (.int .i64))], [.own (.int .i64)], fun (a0, _) => f k a0⟩
def tbl (k : Nat) : List (Nat × Option Entry) := []
abbrev R := Res [.own (.int .i64)] × Outs [.ro (.sl 2 (.int .i64))]
def env (k : Nat) : Env := ⟨Try.prog, 17, AM.look none (tbl k), AM.look none [(3, some ⟨[(3, .asis), (6, .asis), (7, .asis), (8, .asis)], [(3, .asis)]⟩)]⟩
def sh3 : Shape := ⟨[(3, .val (.int .i64)), (6, .val (.sl 2 (.int .i64))), (7, .val (.int .i64)), (8, .val (.int .i64))], [], 0, []⟩
def osh3kx0 : Shape := ⟨[(3, .val (.int .i64))], [], 0, []⟩
def un3 : Int × (List Int) × Int × Int → sh3.V := fun (x3, x6, x7, x8) => ((x3, (x6, (x7, (x8, ())))), ())
def fl3 : sh3.V → Int × (List Int) × Int × Int := fun ((x3, (x6, (x7, (x8, _)))), _) => (x3, x6, x7, x8)
def L (k : Nat) (q : Nat) (s : St) (K : AExit → St → Option R) : Option R := bif Nat.beq q 3 then (match sh3.dec s with | some v => l3 (R := R) k k (fl3 v) (fun x3 => K (.exit 0) (osh3kx0.enc ((x3, ()), ()))) | none => none) else (none)
def J (k : Nat) : Inl R := noInl
theorem step3 (k n : Nat) (K : AExit → St → Option R) : ∀ v, aloop (aexec (env k) (J k) (L k) ((findLoop 3 (codeOf Try.f88)).getD .skip)) (normSt [(3, .asis), (6, .asis), (7, .asis), (8, .asis)]) (normSt [(3, .asis)]) K (n + 1) (sh3.enc (un3 v)) = s3 (R := R) k (fun w => aloop (aexec (env k) (J k) (L k) ((findLoop 3 (codeOf Try.f88)).getD .skip)) (normSt [(3, .asis), (6, .asis), (7, .asis), (8, .asis)]) (normSt [(3, .asis)]) K n (sh3.enc (un3 w))) (fun x3 => K (.exit 0) (osh3kx0.enc ((x3, ()), ()))) v := by intro v; kernel_rfl
theorem eq (k : Nat) : ∀ a, aexec (env k) (J k) (L k) (codeOf Try.f88) (begSt [.ro (.sl 2 (.int .i64))] a) (finK (env k) Try.f88 [.ro (.sl 2 (.int .i64))] [.own (.int .i64)]) = (entry k).fn a := by intro a; kernel_rfl
theorem run3 (k : Nat) (K : AExit → St → Option R) : ∀ n v, aloop (aexec (env k) (J k) (L k) ((findLoop 3 (codeOf Try.f88)).getD .skip)) (normSt [(3, .asis), (6, .asis), (7, .asis), (8, .asis)]) (normSt [(3, .asis)]) K n (sh3.enc (un3 v)) = l3 (R := R) k n v (fun x3 => K (.exit 0) (osh3kx0.enc ((x3, ()), ()))) := loop_eq (fun n v => aloop (aexec (env k) (J k) (L k) ((findLoop 3 (codeOf Try.f88)).getD .skip)) (normSt [(3, .asis), (6, .asis), (7, .asis), (8, .asis)]) (normSt [(3, .asis)]) K n (sh3.enc (un3 v))) (fun n v => l3 (R := R) k n v (fun x3 => K (.exit 0) (osh3kx0.enc ((x3, ()), ())))) (fun X v => s3 (R := R) k X (fun x3 => K (.exit 0) (osh3kx0.enc ((x3, ()), ()))) v) (fun _ => rfl) (fun n v => step3 k n K v) (fun n v => rfl)
theorem loops (k : Nat) : LoopsOk (env k) (J k) (L k) (codeOf Try.f88) := by
  intro c an hc han s K r h
  unfold L at h
  by_cases q3 : firstRegion c = 3
  · have h1 := key_eq q3 h
    rw [q3] at hc han
    have e2 : an = ⟨[(3, .asis), (6, .asis), (7, .asis), (8, .asis)], [(3, .asis)]⟩ := (Option.some.inj (show some _ = some an from han)).symm
    have e1 : c = (findLoop 3 (codeOf Try.f88)).getD .skip := by rw [hc]; rfl
    cases hd : sh3.dec s with
    | none => rw [hd] at h1; cases h1
    | some v =>
      rw [hd] at h1
      refine ⟨k, ?_⟩
      rw [e1, e2, Shape.dec_enc _ _ _ hd]
      exact (run3 k K k (fl3 v)).trans h1
  have h := not_key q3 h
  cases h
theorem fit (k : Nat) : codeFit (env k) (codeOf Try.f88) = true := by kernel_rfl
theorem lps : (loopsIn (codeOf Try.f88)).map (fun d => findLoop (firstRegion d) (codeOf Try.f88)) = (loopsIn (codeOf Try.f88)).map some := by kernel_rfl
theorem hf : Try.prog.funcs[88]? = some Try.f88 := by kernel_rfl
theorem hb : Try.f88.body = some (codeOf Try.f88) := by kernel_rfl
theorem hn : (Try.f88.name == "runtime.NumGoroutine") = false := by kernel_rfl
theorem hJ (k : Nat) : ∀ C : Ctx, C.P = Try.prog → ∀ r, InlOk C (J k) r := fun C hC r => noInl_ok
theorem sound (k : Nat) : Sound Try.prog 88 (entry k) := func_sound (E := env k) (by kernel_rfl) (by kernel_rfl) (by kernel_rfl) (by kernel_rfl) tbl_nil hf hb hn (fit k) (loops_all lps) (hJ k) (loops k) (eq k)
end impl_sumOf

namespace impl_NetResult
def entry (k : Nat) : Entry := ⟨[.ro (.sl 2 (.int .i64)), .ro (.sl 2 (.int .i64))], [.own (.sl 2 (.int .i64)), .own (.int .i64)], fun (a0, (a1, _)) => f k a0 a1⟩
def tbl (k : Nat) : List (Nat × Option Entry) := [(87, some (impl_allWithin.entry k)), (88, some (impl_sumOf.entry k)), (89, some (slices_Clone_int64_int64.entry k))]
abbrev R := Res [.own (.sl 2 (.int .i64)), .own (.int .i64)] × Outs [.ro (.sl 2 (.int .i64)), .ro (.sl 2 (.int .i64))]
def env (k : Nat) : Env := ⟨Try.prog, 52, AM.look none (tbl k), AM.look none [(7, some ⟨[(6, .asis), (36, .asis), (37, .asis), (38, .asis)], [(6, .asis)]⟩)]⟩
def sh7 : Shape := ⟨[(6, .ref 0), (36, .val (.sl 2 (.int .i64))), (37, .val (.int .i64)), (38, .val (.int .i64))], [(0, .row 2 (.int .i64))], 1, []⟩
def osh7kx0 : Shape := ⟨[(6, .ref 0)], [(0, .row 2 (.int .i64))], 1, []⟩
def un7 : (List Int) × Int × Int × (List Int) → sh7.V := fun (x36, x37, x38, y0) => (((), (x36, (x37, (x38, ())))), (y0, ()))
def fl7 : sh7.V → (List Int) × Int × Int × (List Int) := fun ((_, (x36, (x37, (x38, _)))), (y0, _)) => (x36, x37, x38, y0)
def L (k : Nat) (q : Nat) (s : St) (K : AExit → St → Option R) : Option R := bif Nat.beq q 7 then (match sh7.dec s with | some v => l7 (R := R) k k (fl7 v) (fun y0 => K (.exit 0) (osh7kx0.enc (((), ()), (y0, ())))) | none => none) else (none)
def J (k : Nat) : Inl R := noInl
theorem step7 (k n : Nat) (K : AExit → St → Option R) : ∀ v, aloop (aexec (env k) (J k) (L k) ((findLoop 7 (codeOf Try.f50)).getD .skip)) (normSt [(6, .asis), (36, .asis), (37, .asis), (38, .asis)]) (normSt [(6, .asis)]) K (n + 1) (sh7.enc (un7 v)) = s7 (R := R) k (fun w => aloop (aexec (env k) (J k) (L k) ((findLoop 7 (codeOf Try.f50)).getD .skip)) (normSt [(6, .asis), (36, .asis), (37, .asis), (38, .asis)]) (normSt [(6, .asis)]) K n (sh7.enc (un7 w))) (fun y0 => K (.exit 0) (osh7kx0.enc (((), ()), (y0, ())))) v := by intro v; kernel_rfl
theorem eq (k : Nat) : ∀ a, aexec (env k) (J k) (L k) (codeOf Try.f50) (begSt [.ro (.sl 2 (.int .i64)), .ro (.sl 2 (.int .i64))] a) (finK (env k) Try.f50 [.ro (.sl 2 (.int .i64)), .ro (.sl 2 (.int .i64))] [.own (.sl 2 (.int .i64)), .own (.int .i64)]) = (entry k).fn a := by intro a; kernel_rfl
theorem run7 (k : Nat) (K : AExit → St → Option R) : ∀ n v, aloop (aexec (env k) (J k) (L k) ((findLoop 7 (codeOf Try.f50)).getD .skip)) (normSt [(6, .asis), (36, .asis), (37, .asis), (38, .asis)]) (normSt [(6, .asis)]) K n (sh7.enc (un7 v)) = l7 (R := R) k n v (fun y0 => K (.exit 0) (osh7kx0.enc (((), ()), (y0, ())))) := loop_eq (fun n v => aloop (aexec (env k) (J k) (L k) ((findLoop 7 (codeOf Try.f50)).getD .skip)) (normSt [(6, .asis), (36, .asis), (37, .asis), (38, .asis)]) (normSt [(6, .asis)]) K n (sh7.enc (un7 v))) (fun n v => l7 (R := R) k n v (fun y0 => K (.exit 0) (osh7kx0.enc (((), ()), (y0, ()))))) (fun X v => s7 (R := R) k X (fun y0 => K (.exit 0) (osh7kx0.enc (((), ()), (y0, ())))) v) (fun _ => rfl) (fun n v => step7 k n K v) (fun n v => rfl)
theorem loops (k : Nat) : LoopsOk (env k) (J k) (L k) (codeOf Try.f50) := by
  intro c an hc han s K r h
  unfold L at h
  by_cases q7 : firstRegion c = 7
  · have h1 := key_eq q7 h
    rw [q7] at hc han
    have e2 : an = ⟨[(6, .asis), (36, .asis), (37, .asis), (38, .asis)], [(6, .asis)]⟩ := (Option.some.inj (show some _ = some an from han)).symm
    have e1 : c = (findLoop 7 (codeOf Try.f50)).getD .skip := by rw [hc]; rfl
    cases hd : sh7.dec s with
    | none => rw [hd] at h1; cases h1
    | some v =>
      rw [hd] at h1
      refine ⟨k, ?_⟩
      rw [e1, e2, Shape.dec_enc _ _ _ hd]
      exact (run7 k K k (fl7 v)).trans h1
  have h := not_key q7 h
  cases h
theorem fit (k : Nat) : codeFit (env k) (codeOf Try.f50) = true := by kernel_rfl
theorem lps : (loopsIn (codeOf Try.f50)).map (fun d => findLoop (firstRegion d) (codeOf Try.f50)) = (loopsIn (codeOf Try.f50)).map some := by kernel_rfl
theorem hf : Try.prog.funcs[50]? = some Try.f50 := by kernel_rfl
theorem hb : Try.f50.body = some (codeOf Try.f50) := by kernel_rfl
theorem hn : (Try.f50.name == "runtime.NumGoroutine") = false := by kernel_rfl
theorem hJ (k : Nat) : ∀ C : Ctx, C.P = Try.prog → ∀ r, InlOk C (J k) r := fun C hC r => noInl_ok
theorem sound (k : Nat) : Sound Try.prog 50 (entry k) := func_sound (E := env k) (by kernel_rfl) (by kernel_rfl) (by kernel_rfl) (by kernel_rfl) (tbl_cons (impl_allWithin.sound k) (tbl_cons (impl_sumOf.sound k) (tbl_cons (slices_Clone_int64_int64.sound k) tbl_nil))) hf hb hn (fit k) (loops_all lps) (hJ k) (loops k) (eq k)
end impl_NetResult

namespace spec_l01Sum
def entry (k : Nat) : Entry := ⟨[.ro (.sl 2 (.int .i64))], [.own (.int .i64)], fun (a0, _) => f k a0⟩
def tbl (k : Nat) : List (Nat × Option Entry) := []
abbrev R := Res [.own (.int .i64)] × Outs [.ro (.sl 2 (.int .i64))]
def env (k : Nat) : Env := ⟨Try.prog, 18, AM.look none (tbl k), AM.look none [(3, some ⟨[(0, .asis), (3, .asis), (4, .asis)], [(3, .asis)]⟩)]⟩
def sh3 : Shape := ⟨[(0, .val (.sl 2 (.int .i64))), (3, .val (.int .i64)), (4, .val (.int .i64))], [], 0, []⟩
def osh3kx0 : Shape := ⟨[(3, .val (.int .i64))], [], 0, []⟩
def un3 : (List Int) × Int × Int → sh3.V := fun (x0, x3, x4) => ((x0, (x3, (x4, ()))), ())
def fl3 : sh3.V → (List Int) × Int × Int := fun ((x0, (x3, (x4, _))), _) => (x0, x3, x4)
def L (k : Nat) (q : Nat) (s : St) (K : AExit → St → Option R) : Option R := bif Nat.beq q 3 then (match sh3.dec s with | some v => l3 (R := R) k k (fl3 v) (fun x3 => K (.exit 0) (osh3kx0.enc ((x3, ()), ()))) | none => none) else (none)
def J (k : Nat) : Inl R := noInl
theorem step3 (k n : Nat) (K : AExit → St → Option R) : ∀ v, aloop (aexec (env k) (J k) (L k) ((findLoop 3 (codeOf Try.f91)).getD .skip)) (normSt [(0, .asis), (3, .asis), (4, .asis)]) (normSt [(3, .asis)]) K (n + 1) (sh3.enc (un3 v)) = s3 (R := R) k (fun w => aloop (aexec (env k) (J k) (L k) ((findLoop 3 (codeOf Try.f91)).getD .skip)) (normSt [(0, .asis), (3, .asis), (4, .asis)]) (normSt [(3, .asis)]) K n (sh3.enc (un3 w))) (fun x3 => K (.exit 0) (osh3kx0.enc ((x3, ()), ()))) v := by intro v; kernel_rfl
theorem eq (k : Nat) : ∀ a, aexec (env k) (J k) (L k) (codeOf Try.f91) (begSt [.ro (.sl 2 (.int .i64))] a) (finK (env k) Try.f91 [.ro (.sl 2 (.int .i64))] [.own (.int .i64)]) = (entry k).fn a := by intro a; kernel_rfl
theorem run3 (k : Nat) (K : AExit → St → Option R) : ∀ n v, aloop (aexec (env k) (J k) (L k) ((findLoop 3 (codeOf Try.f91)).getD .skip)) (normSt [(0, .asis), (3, .asis), (4, .asis)]) (normSt [(3, .asis)]) K n (sh3.enc (un3 v)) = l3 (R := R) k n v (fun x3 => K (.exit 0) (osh3kx0.enc ((x3, ()), ()))) := loop_eq (fun n v => aloop (aexec (env k) (J k) (L k) ((findLoop 3 (codeOf Try.f91)).getD .skip)) (normSt [(0, .asis), (3, .asis), (4, .asis)]) (normSt [(3, .asis)]) K n (sh3.enc (un3 v))) (fun n v => l3 (R := R) k n v (fun x3 => K (.exit 0) (osh3kx0.enc ((x3, ()), ())))) (fun X v => s3 (R := R) k X (fun x3 => K (.exit 0) (osh3kx0.enc ((x3, ()), ()))) v) (fun _ => rfl) (fun n v => step3 k n K v) (fun n v => rfl)
theorem loops (k : Nat) : LoopsOk (env k) (J k) (L k) (codeOf Try.f91) := by
  intro c an hc han s K r h
  unfold L at h
  by_cases q3 : firstRegion c = 3
  · have h1 := key_eq q3 h
    rw [q3] at hc han
    have e2 : an = ⟨[(0, .asis), (3, .asis), (4, .asis)], [(3, .asis)]⟩ := (Option.some.inj (show some _ = some an from han)).symm
    have e1 : c = (findLoop 3 (codeOf Try.f91)).getD .skip := by rw [hc]; rfl
    cases hd : sh3.dec s with
    | none => rw [hd] at h1; cases h1
    | some v =>
      rw [hd] at h1
      refine ⟨k, ?_⟩
      rw [e1, e2, Shape.dec_enc _ _ _ hd]
      exact (run3 k K k (fl3 v)).trans h1
  have h := not_key q3 h
  cases h
theorem fit (k : Nat) : codeFit (env k) (codeOf Try.f91) = true := by kernel_rfl
theorem lps : (loopsIn (codeOf Try.f91)).map (fun d => findLoop (firstRegion d) (codeOf Try.f91)) = (loopsIn (codeOf Try.f91)).map some := by kernel_rfl
theorem hf : Try.prog.funcs[91]? = some Try.f91 := by kernel_rfl
theorem hb : Try.f91.body = some (codeOf Try.f91) := by kernel_rfl
theorem hn : (Try.f91.name == "runtime.NumGoroutine") = false := by kernel_rfl
theorem hJ (k : Nat) : ∀ C : Ctx, C.P = Try.prog → ∀ r, InlOk C (J k) r := fun C hC r => noInl_ok
theorem sound (k : Nat) : Sound Try.prog 91 (entry k) := func_sound (E := env k) (by kernel_rfl) (by kernel_rfl) (by kernel_rfl) (by kernel_rfl) tbl_nil hf hb hn (fit k) (loops_all lps) (hJ k) (loops k) (eq k)
end spec_l01Sum

namespace spec_NetResult
def entry (k : Nat) : Entry := ⟨[.ro (.sl 2 (.int .i64)), .ro (.sl 2 (.int .i64))], [.own (.sl 2 (.int .i64)), .own (.int .i64)], fun (a0, (a1, _)) => f k a0 a1⟩
def tbl (k : Nat) : List (Nat × Option Entry) := [(90, some (spec_l10Chips.entry k)), (91, some (spec_l01Sum.entry k))]
abbrev R := Res [.own (.sl 2 (.int .i64)), .own (.int .i64)] × Outs [.ro (.sl 2 (.int .i64)), .ro (.sl 2 (.int .i64))]
def env (k : Nat) : Env := ⟨Try.prog, 50, AM.look none (tbl k), AM.look none [(7, some ⟨[(0, .asis), (1, .asis), (6, .asis), (7, .asis)], [(6, .asis)]⟩)]⟩
def sh7 : Shape := ⟨[(0, .val (.sl 2 (.int .i64))), (1, .val (.sl 2 (.int .i64))), (6, .ref 0), (7, .val (.int .i64))], [(0, .row 2 (.int .i64))], 1, []⟩
def osh7kx0 : Shape := ⟨[(6, .ref 0)], [(0, .row 2 (.int .i64))], 1, []⟩
def un7 : (List Int) × (List Int) × Int × (List Int) → sh7.V := fun (x0, x1, x7, y0) => ((x0, (x1, ((), (x7, ())))), (y0, ()))
def fl7 : sh7.V → (List Int) × (List Int) × Int × (List Int) := fun ((x0, (x1, (_, (x7, _)))), (y0, _)) => (x0, x1, x7, y0)
def L (k : Nat) (q : Nat) (s : St) (K : AExit → St → Option R) : Option R := bif Nat.beq q 7 then (match sh7.dec s with | some v => l7 (R := R) k k (fl7 v) (fun y0 => K (.exit 0) (osh7kx0.enc (((), ()), (y0, ())))) | none => none) else (none)
def J (k : Nat) : Inl R := noInl
theorem step7 (k n : Nat) (K : AExit → St → Option R) : ∀ v, aloop (aexec (env k) (J k) (L k) ((findLoop 7 (codeOf Try.f51)).getD .skip)) (normSt [(0, .asis), (1, .asis), (6, .asis), (7, .asis)]) (normSt [(6, .asis)]) K (n + 1) (sh7.enc (un7 v)) = s7 (R := R) k (fun w => aloop (aexec (env k) (J k) (L k) ((findLoop 7 (codeOf Try.f51)).getD .skip)) (normSt [(0, .asis), (1, .asis), (6, .asis), (7, .asis)]) (normSt [(6, .asis)]) K n (sh7.enc (un7 w))) (fun y0 => K (.exit 0) (osh7kx0.enc (((), ()), (y0, ())))) v := by intro v; kernel_rfl
theorem eq (k : Nat) : ∀ a, aexec (env k) (J k) (L k) (codeOf Try.f51) (begSt [.ro (.sl 2 (.int .i64)), .ro (.sl 2 (.int .i64))] a) (finK (env k) Try.f51 [.ro (.sl 2 (.int .i64)), .ro (.sl 2 (.int .i64))] [.own (.sl 2 (.int .i64)), .own (.int .i64)]) = (entry k).fn a := by intro a; kernel_rfl
theorem run7 (k : Nat) (K : AExit → St → Option R) : ∀ n v, aloop (aexec (env k) (J k) (L k) ((findLoop 7 (codeOf Try.f51)).getD .skip)) (normSt [(0, .asis), (1, .asis), (6, .asis), (7, .asis)]) (normSt [(6, .asis)]) K n (sh7.enc (un7 v)) = l7 (R := R) k n v (fun y0 => K (.exit 0) (osh7kx0.enc (((), ()), (y0, ())))) := loop_eq (fun n v => aloop (aexec (env k) (J k) (L k) ((findLoop 7 (codeOf Try.f51)).getD .skip)) (normSt [(0, .asis), (1, .asis), (6, .asis), (7, .asis)]) (normSt [(6, .asis)]) K n (sh7.enc (un7 v))) (fun n v => l7 (R := R) k n v (fun y0 => K (.exit 0) (osh7kx0.enc (((), ()), (y0, ()))))) (fun X v => s7 (R := R) k X (fun y0 => K (.exit 0) (osh7kx0.enc (((), ()), (y0, ())))) v) (fun _ => rfl) (fun n v => step7 k n K v) (fun n v => rfl)
theorem loops (k : Nat) : LoopsOk (env k) (J k) (L k) (codeOf Try.f51) := by
  intro c an hc han s K r h
  unfold L at h
  by_cases q7 : firstRegion c = 7
  · have h1 := key_eq q7 h
    rw [q7] at hc han
    have e2 : an = ⟨[(0, .asis), (1, .asis), (6, .asis), (7, .asis)], [(6, .asis)]⟩ := (Option.some.inj (show some _ = some an from han)).symm
    have e1 : c = (findLoop 7 (codeOf Try.f51)).getD .skip := by rw [hc]; rfl
    cases hd : sh7.dec s with
    | none => rw [hd] at h1; cases h1
    | some v =>
      rw [hd] at h1
      refine ⟨k, ?_⟩
      rw [e1, e2, Shape.dec_enc _ _ _ hd]
      exact (run7 k K k (fl7 v)).trans h1
  have h := not_key q7 h
  cases h
theorem fit (k : Nat) : codeFit (env k) (codeOf Try.f51) = true := by kernel_rfl
theorem lps : (loopsIn (codeOf Try.f51)).map (fun d => findLoop (firstRegion d) (codeOf Try.f51)) = (loopsIn (codeOf Try.f51)).map some := by kernel_rfl
theorem hf : Try.prog.funcs[51]? = some Try.f51 := by kernel_rfl
theorem hb : Try.f51.body = some (codeOf Try.f51) := by kernel_rfl
theorem hn : (Try.f51.name == "runtime.NumGoroutine") = false := by kernel_rfl
theorem hJ (k : Nat) : ∀ C : Ctx, C.P = Try.prog → ∀ r, InlOk C (J k) r := fun C hC r => noInl_ok
theorem sound (k : Nat) : Sound Try.prog 51 (entry k) := func_sound (E := env k) (by kernel_rfl) (by kernel_rfl) (by kernel_rfl) (by kernel_rfl) (tbl_cons (spec_l10Chips.sound k) (tbl_cons (spec_l01Sum.sound k) tbl_nil)) hf hb hn (fit k) (loops_all lps) (hJ k) (loops k) (eq k)
end spec_NetResult

namespace impl_UncalledOf
def entry (k : Nat) : Entry := ⟨[.ro (.sl 2 (.int .i64)), .ro (.sl 4 .bool)], [.own (.int .i64), .own (.int .i64), .own (.int .i64)], fun (a0, (a1, _)) => f k a0 a1⟩
def tbl (k : Nat) : List (Nat × Option Entry) := [(81, some (impl_ArePayments.entry k)), (83, some (impl_uncalledOf.entry k))]
abbrev R := Res [.own (.int .i64), .own (.int .i64), .own (.int .i64)] × Outs [.ro (.sl 2 (.int .i64)), .ro (.sl 4 .bool)]
def env (k : Nat) : Env := ⟨Try.prog, 20, AM.look none (tbl k), AM.look none []⟩
def L (k : Nat) (q : Nat) (s : St) (K : AExit → St → Option R) : Option R := none
def J (k : Nat) : Inl R := noInl
theorem eq (k : Nat) : ∀ a, aexec (env k) (J k) (L k) (codeOf Try.f52) (begSt [.ro (.sl 2 (.int .i64)), .ro (.sl 4 .bool)] a) (finK (env k) Try.f52 [.ro (.sl 2 (.int .i64)), .ro (.sl 4 .bool)] [.own (.int .i64), .own (.int .i64), .own (.int .i64)]) = (entry k).fn a := by intro a; kernel_rfl
theorem loops (k : Nat) : LoopsOk (env k) (J k) (L k) (codeOf Try.f52) := by
  intro c an hc han s K r h
  unfold L at h
  cases h
theorem fit (k : Nat) : codeFit (env k) (codeOf Try.f52) = true := by kernel_rfl
theorem lps : (loopsIn (codeOf Try.f52)).map (fun d => findLoop (firstRegion d) (codeOf Try.f52)) = (loopsIn (codeOf Try.f52)).map some := by kernel_rfl
theorem hf : Try.prog.funcs[52]? = some Try.f52 := by kernel_rfl
theorem hb : Try.f52.body = some (codeOf Try.f52) := by kernel_rfl
theorem hn : (Try.f52.name == "runtime.NumGoroutine") = false := by kernel_rfl
theorem hJ (k : Nat) : ∀ C : Ctx, C.P = Try.prog → ∀ r, InlOk C (J k) r := fun C hC r => noInl_ok
theorem sound (k : Nat) : Sound Try.prog 52 (entry k) := func_sound (E := env k) (by kernel_rfl) (by kernel_rfl) (by kernel_rfl) (by kernel_rfl) (tbl_cons (impl_ArePayments.sound k) (tbl_cons (impl_uncalledOf.sound k) tbl_nil)) hf hb hn (fit k) (loops_all lps) (hJ k) (loops k) (eq k)
end impl_UncalledOf

namespace impl_ShareIn
def entry (k : Nat) : Entry := ⟨[.ro (.sl 2 (.int .i64)), .ro (.sl 4 .bool), .ro (.int .i64)], [.own (.int .i64), .own (.int .i64)], fun (a0, (a1, (a2, _))) => f k a0 a1 a2⟩
def tbl (k : Nat) : List (Nat × Option Entry) := [(59, some (impl_within.entry k)), (81, some (impl_ArePayments.entry k)), (82, some (impl_potsOf.entry k)), (92, some (slices_Contains_int64_int64.entry k))]
abbrev R := Res [.own (.int .i64), .own (.int .i64)] × Outs [.ro (.sl 2 (.int .i64)), .ro (.sl 4 .bool), .ro (.int .i64)]
def env (k : Nat) : Env := ⟨Try.prog, 39, AM.look none (tbl k), AM.look none [(7, some ⟨[(2, .asis), (8, .asis), (23, .asis), (24, .asis), (25, .asis)], [(8, .asis)]⟩)]⟩
def sh7 : Shape := ⟨[(2, .val (.int .i64)), (8, .val (.int .i64)), (23, .ref 0), (24, .val (.int .i64)), (25, .val (.int .i64))], [(0, .row 34 (.pair (.int .i64) (.pair (.sl 2 (.int .i64)) .unit)))], 1, []⟩
def osh7kx0 : Shape := ⟨[(8, .val (.int .i64))], [], 0, []⟩
def un7 : Int × Int × Int × Int × (List (Int × ((List Int) × Unit))) → sh7.V := fun (x2, x8, x24, x25, y0) => ((x2, (x8, ((), (x24, (x25, ()))))), (y0, ()))
def fl7 : sh7.V → Int × Int × Int × Int × (List (Int × ((List Int) × Unit))) := fun ((x2, (x8, (_, (x24, (x25, _))))), (y0, _)) => (x2, x8, x24, x25, y0)
def L (k : Nat) (q : Nat) (s : St) (K : AExit → St → Option R) : Option R := bif Nat.beq q 7 then (match sh7.dec s with | some v => l7 (R := R) k k (fl7 v) (fun x8 => K (.exit 0) (osh7kx0.enc ((x8, ()), ()))) | none => none) else (none)
def J (k : Nat) : Inl R := noInl
theorem step7 (k n : Nat) (K : AExit → St → Option R) : ∀ v, aloop (aexec (env k) (J k) (L k) ((findLoop 7 (codeOf Try.f53)).getD .skip)) (normSt [(2, .asis), (8, .asis), (23, .asis), (24, .asis), (25, .asis)]) (normSt [(8, .asis)]) K (n + 1) (sh7.enc (un7 v)) = s7 (R := R) k (fun w => aloop (aexec (env k) (J k) (L k) ((findLoop 7 (codeOf Try.f53)).getD .skip)) (normSt [(2, .asis), (8, .asis), (23, .asis), (24, .asis), (25, .asis)]) (normSt [(8, .asis)]) K n (sh7.enc (un7 w))) (fun x8 => K (.exit 0) (osh7kx0.enc ((x8, ()), ()))) v := by intro v; kernel_rfl
theorem eq (k : Nat) : ∀ a, aexec (env k) (J k) (L k) (codeOf Try.f53) (begSt [.ro (.sl 2 (.int .i64)), .ro (.sl 4 .bool), .ro (.int .i64)] a) (finK (env k) Try.f53 [.ro (.sl 2 (.int .i64)), .ro (.sl 4 .bool), .ro (.int .i64)] [.own (.int .i64), .own (.int .i64)]) = (entry k).fn a := by intro a; kernel_rfl
theorem run7 (k : Nat) (K : AExit → St → Option R) : ∀ n v, aloop (aexec (env k) (J k) (L k) ((findLoop 7 (codeOf Try.f53)).getD .skip)) (normSt [(2, .asis), (8, .asis), (23, .asis), (24, .asis), (25, .asis)]) (normSt [(8, .asis)]) K n (sh7.enc (un7 v)) = l7 (R := R) k n v (fun x8 => K (.exit 0) (osh7kx0.enc ((x8, ()), ()))) := loop_eq (fun n v => aloop (aexec (env k) (J k) (L k) ((findLoop 7 (codeOf Try.f53)).getD .skip)) (normSt [(2, .asis), (8, .asis), (23, .asis), (24, .asis), (25, .asis)]) (normSt [(8, .asis)]) K n (sh7.enc (un7 v))) (fun n v => l7 (R := R) k n v (fun x8 => K (.exit 0) (osh7kx0.enc ((x8, ()), ())))) (fun X v => s7 (R := R) k X (fun x8 => K (.exit 0) (osh7kx0.enc ((x8, ()), ()))) v) (fun _ => rfl) (fun n v => step7 k n K v) (fun n v => rfl)
theorem loops (k : Nat) : LoopsOk (env k) (J k) (L k) (codeOf Try.f53) := by
  intro c an hc han s K r h
  unfold L at h
  by_cases q7 : firstRegion c = 7
  · have h1 := key_eq q7 h
    rw [q7] at hc han
    have e2 : an = ⟨[(2, .asis), (8, .asis), (23, .asis), (24, .asis), (25, .asis)], [(8, .asis)]⟩ := (Option.some.inj (show some _ = some an from han)).symm
    have e1 : c = (findLoop 7 (codeOf Try.f53)).getD .skip := by rw [hc]; rfl
    cases hd : sh7.dec s with
    | none => rw [hd] at h1; cases h1
    | some v =>
      rw [hd] at h1
      refine ⟨k, ?_⟩
      rw [e1, e2, Shape.dec_enc _ _ _ hd]
      exact (run7 k K k (fl7 v)).trans h1
  have h := not_key q7 h
  cases h
theorem fit (k : Nat) : codeFit (env k) (codeOf Try.f53) = true := by kernel_rfl
theorem lps : (loopsIn (codeOf Try.f53)).map (fun d => findLoop (firstRegion d) (codeOf Try.f53)) = (loopsIn (codeOf Try.f53)).map some := by kernel_rfl
theorem hf : Try.prog.funcs[53]? = some Try.f53 := by kernel_rfl
theorem hb : Try.f53.body = some (codeOf Try.f53) := by kernel_rfl
theorem hn : (Try.f53.name == "runtime.NumGoroutine") = false := by kernel_rfl
theorem hJ (k : Nat) : ∀ C : Ctx, C.P = Try.prog → ∀ r, InlOk C (J k) r := fun C hC r => noInl_ok
theorem sound (k : Nat) : Sound Try.prog 53 (entry k) := func_sound (E := env k) (by kernel_rfl) (by kernel_rfl) (by kernel_rfl) (by kernel_rfl) (tbl_cons (impl_within.sound k) (tbl_cons (impl_ArePayments.sound k) (tbl_cons (impl_potsOf.sound k) (tbl_cons (slices_Contains_int64_int64.sound k) tbl_nil)))) hf hb hn (fit k) (loops_all lps) (hJ k) (loops k) (eq k)
end impl_ShareIn

namespace laws_FnSettled
def entry (k : Nat) : Entry := ⟨[.ro (.sl 5 (.int .u8))], [.own .bool], fun (a0, _) => f k a0⟩
def tbl (k : Nat) : List (Nat × Option Entry) := [(28, some (laws_big.entry k)), (32, some (laws_likeInts.entry k)), (34, some (laws_sum.entry k)), (43, some (spec_SettleHand.entry k)), (45, some (impl_SettleHand.entry k)), (48, some (spec_DrawSettleHand.entry k)), (49, some (spec_DrawNetResult.entry k)), (50, some (impl_NetResult.entry k)), (51, some (spec_NetResult.entry k)), (52, some (impl_UncalledOf.entry k)), (53, some (impl_ShareIn.entry k))]
abbrev R := Res [.own .bool] × Outs [.ro (.sl 5 (.int .u8))]
def env (k : Nat) : Env := ⟨Try.prog, 150, AM.look none (tbl k), AM.look none [(15, some ⟨[(3, .asis), (4, .asis), (8, .asis), (18, .asis), (19, .asis), (20, .asis), (21, .asis)], [(2, .asis), (3, .asis), (8, .asis), (20, .asis)]⟩)]⟩
def sh15 : Shape := ⟨[(3, .val (.sl 2 (.int .i64))), (4, .ref 0), (8, .ref 1), (18, .val (.int .i64)), (19, .val (.int .i64)), (20, .val (.int .i64)), (21, .val (.int .i64))], [(0, .row 4 .bool), (1, .row 2 (.int .i64))], 2, []⟩
def osh15kx0 : Shape := ⟨[(2, .undef), (3, .val (.sl 2 (.int .i64))), (8, .ref 0), (20, .val (.int .i64))], [(0, .row 2 (.int .i64))], 1, []⟩
def osh15kr : Shape := ⟨[(2, .val .bool), (3, .val (.sl 2 (.int .i64))), (8, .ref 0), (20, .val (.int .i64))], [(0, .row 2 (.int .i64))], 1, []⟩
def un15 : (List Int) × Int × Int × Int × Int × (List Bool) × (List Int) → sh15.V := fun (x3, x18, x19, x20, x21, y0, y1) => ((x3, ((), ((), (x18, (x19, (x20, (x21, ()))))))), (y0, (y1, ())))
def fl15 : sh15.V → (List Int) × Int × Int × Int × Int × (List Bool) × (List Int) := fun ((x3, (_, (_, (x18, (x19, (x20, (x21, _))))))), (y0, (y1, _))) => (x3, x18, x19, x20, x21, y0, y1)
def L (k : Nat) (q : Nat) (s : St) (K : AExit → St → Option R) : Option R := bif Nat.beq q 15 then (match sh15.dec s with | some v => l15 (R := R) k k (fl15 v) (fun (x3, x20, y0) => K (.exit 0) (osh15kx0.enc (((), (x3, ((), (x20, ())))), (y0, ())))) (fun (x2, x3, x20, y0) => K .ret (osh15kr.enc ((x2, (x3, ((), (x20, ())))), (y0, ())))) | none => none) else (none)
def J (k : Nat) : Inl R := noInl
theorem step15 (k n : Nat) (K : AExit → St → Option R) : ∀ v, aloop (aexec (env k) (J k) (L k) ((findLoop 15 (codeOf Try.f11)).getD .skip)) (normSt [(3, .asis), (4, .asis), (8, .asis), (18, .asis), (19, .asis), (20, .asis), (21, .asis)]) (normSt [(2, .asis), (3, .asis), (8, .asis), (20, .asis)]) K (n + 1) (sh15.enc (un15 v)) = s15 (R := R) k (fun w => aloop (aexec (env k) (J k) (L k) ((findLoop 15 (codeOf Try.f11)).getD .skip)) (normSt [(3, .asis), (4, .asis), (8, .asis), (18, .asis), (19, .asis), (20, .asis), (21, .asis)]) (normSt [(2, .asis), (3, .asis), (8, .asis), (20, .asis)]) K n (sh15.enc (un15 w))) (fun (x3, x20, y0) => K (.exit 0) (osh15kx0.enc (((), (x3, ((), (x20, ())))), (y0, ())))) (fun (x2, x3, x20, y0) => K .ret (osh15kr.enc ((x2, (x3, ((), (x20, ())))), (y0, ())))) v := by intro v; kernel_rfl
theorem eq (k : Nat) : ∀ a, aexec (env k) (J k) (L k) (codeOf Try.f11) (begSt [.ro (.sl 5 (.int .u8))] a) (finK (env k) Try.f11 [.ro (.sl 5 (.int .u8))] [.own .bool]) = (entry k).fn a := by intro a; kernel_rfl
theorem run15 (k : Nat) (K : AExit → St → Option R) : ∀ n v, aloop (aexec (env k) (J k) (L k) ((findLoop 15 (codeOf Try.f11)).getD .skip)) (normSt [(3, .asis), (4, .asis), (8, .asis), (18, .asis), (19, .asis), (20, .asis), (21, .asis)]) (normSt [(2, .asis), (3, .asis), (8, .asis), (20, .asis)]) K n (sh15.enc (un15 v)) = l15 (R := R) k n v (fun (x3, x20, y0) => K (.exit 0) (osh15kx0.enc (((), (x3, ((), (x20, ())))), (y0, ())))) (fun (x2, x3, x20, y0) => K .ret (osh15kr.enc ((x2, (x3, ((), (x20, ())))), (y0, ())))) := loop_eq (fun n v => aloop (aexec (env k) (J k) (L k) ((findLoop 15 (codeOf Try.f11)).getD .skip)) (normSt [(3, .asis), (4, .asis), (8, .asis), (18, .asis), (19, .asis), (20, .asis), (21, .asis)]) (normSt [(2, .asis), (3, .asis), (8, .asis), (20, .asis)]) K n (sh15.enc (un15 v))) (fun n v => l15 (R := R) k n v (fun (x3, x20, y0) => K (.exit 0) (osh15kx0.enc (((), (x3, ((), (x20, ())))), (y0, ())))) (fun (x2, x3, x20, y0) => K .ret (osh15kr.enc ((x2, (x3, ((), (x20, ())))), (y0, ()))))) (fun X v => s15 (R := R) k X (fun (x3, x20, y0) => K (.exit 0) (osh15kx0.enc (((), (x3, ((), (x20, ())))), (y0, ())))) (fun (x2, x3, x20, y0) => K .ret (osh15kr.enc ((x2, (x3, ((), (x20, ())))), (y0, ())))) v) (fun _ => rfl) (fun n v => step15 k n K v) (fun n v => rfl)
theorem loops (k : Nat) : LoopsOk (env k) (J k) (L k) (codeOf Try.f11) := by
  intro c an hc han s K r h
  unfold L at h
  by_cases q15 : firstRegion c = 15
  · have h1 := key_eq q15 h
    rw [q15] at hc han
    have e2 : an = ⟨[(3, .asis), (4, .asis), (8, .asis), (18, .asis), (19, .asis), (20, .asis), (21, .asis)], [(2, .asis), (3, .asis), (8, .asis), (20, .asis)]⟩ := (Option.some.inj (show some _ = some an from han)).symm
    have e1 : c = (findLoop 15 (codeOf Try.f11)).getD .skip := by rw [hc]; rfl
    cases hd : sh15.dec s with
    | none => rw [hd] at h1; cases h1
    | some v =>
      rw [hd] at h1
      refine ⟨k, ?_⟩
      rw [e1, e2, Shape.dec_enc _ _ _ hd]
      exact (run15 k K k (fl15 v)).trans h1
  have h := not_key q15 h
  cases h
theorem fit (k : Nat) : codeFit (env k) (codeOf Try.f11) = true := by kernel_rfl
theorem lps : (loopsIn (codeOf Try.f11)).map (fun d => findLoop (firstRegion d) (codeOf Try.f11)) = (loopsIn (codeOf Try.f11)).map some := by kernel_rfl
theorem hf : Try.prog.funcs[11]? = some Try.f11 := by kernel_rfl
theorem hb : Try.f11.body = some (codeOf Try.f11) := by kernel_rfl
theorem hn : (Try.f11.name == "runtime.NumGoroutine") = false := by kernel_rfl
theorem hJ (k : Nat) : ∀ C : Ctx, C.P = Try.prog → ∀ r, InlOk C (J k) r := fun C hC r => noInl_ok
theorem sound (k : Nat) : Sound Try.prog 11 (entry k) := func_sound (E := env k) (by kernel_rfl) (by kernel_rfl) (by kernel_rfl) (by kernel_rfl) (tbl_cons (laws_big.sound k) (tbl_cons (laws_likeInts.sound k) (tbl_cons (laws_sum.sound k) (tbl_cons (spec_SettleHand.sound k) (tbl_cons (impl_SettleHand.sound k) (tbl_cons (spec_DrawSettleHand.sound k) (tbl_cons (spec_DrawNetResult.sound k) (tbl_cons (impl_NetResult.sound k) (tbl_cons (spec_NetResult.sound k) (tbl_cons (impl_UncalledOf.sound k) (tbl_cons (impl_ShareIn.sound k) tbl_nil))))))))))) hf hb hn (fit k) (loops_all lps) (hJ k) (loops k) (eq k)
end laws_FnSettled
end Go.Sh

/-
  Functions that are run: what a text answers with so much fuel.
-/
import Derived.Test.YthgocnlbnghbbaaD
import Derived.Test.YthgocnlbnghbbaaC
namespace Vs
open Go

/-! ### A text sees only the functions that it calls -/
def callsOf : T → List Nat
  | .op _ _ _ k => callsOf k
  | .call _ f _ _ k => f :: callsOf k
  | .ite _ t e => callsOf t ++ callsOf e
  | .join _ t k => callsOf t ++ callsOf k
  | .loop _ b => callsOf b
  | .out _ _ => []
theorem run_congr {G G' : Told} {fuel : Nat} : ∀ {t : T}, (∀ f ∈ callsOf t, G f = G' f) → ∀ ρ, run G fuel t ρ = run G' fuel t ρ
  | .op g p xs k, h, ρ => by
    simp only [run]
    have ih := run_congr (fuel := fuel) (t := k) h
    split
    · split
      · exact ih _
      · rfl
    · exact ih _
  | .call g f xs m k, h, ρ => by
    simp only [run]
    have ih := run_congr (fuel := fuel) (t := k) (fun f hf => h f (by simp [callsOf, hf]))
    rw [h f (by simp [callsOf])]
    split
    · split
      · split
        · exact ih _
        · rfl
      · rfl
    · exact ih _
  | .ite c t e, h, ρ => by
    simp only [run]
    rw [run_congr (t := t) (fun f hf => h f (by simp [callsOf, hf])) ρ, run_congr (t := e) (fun f hf => h f (by simp [callsOf, hf])) ρ]
  | .join m t k, h, ρ => by
    simp only [run]
    rw [run_congr (t := t) (fun f hf => h f (by simp [callsOf, hf])) ρ]
    have ih := run_congr (fuel := fuel) (t := k) (fun f hf => h f (by simp [callsOf, hf]))
    split
    · split
      · exact ih _
      · rfl
    · rfl
    · rfl
  | .loop xs b, h, ρ => by
    simp only [run]
    congr 1
    funext ds
    split
    · exact run_congr (t := b) h _
    · rfl
  | .out l xs, _, ρ => rfl

def Frun (G : Told) (fuel : Nat) (t : T) (ds : List D) : Option (List D) := match run G fuel t ds with | some (0, rs) => some rs | _ => none
theorem Frun_run {G G' : Told} {fuel : Nat} {t : T} (h : ∀ f ∈ callsOf t, G f = G' f) : ∀ ds rs, Frun G' fuel t ds = some rs → ∃ fuel, run G fuel t ds = some (0, rs) := by
  intro ds rs hf
  unfold Frun at hf
  split at hf
  · rename_i rs' hr
    cases hf
    exact ⟨fuel, by rw [run_congr h, hr]⟩
  · cases hf

def T222 : T :=
(.op none (.icm .geq) [(.v 0), (.c (.int 0))] <|
(.join 1
  (.ite (.v 1)
    (.out 0 [(.c (.int 9218868437227405312))])
    (.out 0 [(.c (.int 18442240474082181120))]))
(.op none (.b2f .f64) [(.v 2)] <|
(.out 0 [(.v 3)]))))
def G222 : Told := fun _ => fun _ => none
def F222 : List D → Option (List D) := Frun G222 40 T222
theorem run222 {G : Told} : ∀ ds rs, F222 ds = some rs → ∃ fuel, run G fuel T222 ds = some (0, rs) :=
  Frun_run (fun f hf => by
    have e : callsOf T222 = [] := by kernel_rfl
    rw [e] at hf
    cases hf)
def T223 : T :=
(.op none (.b2f .f64) [(.c (.int 9221120237041090561))] <|
(.out 0 [(.v 0)]))
def G223 : Told := fun _ => fun _ => none
def F223 : List D → Option (List D) := Frun G223 40 T223
theorem run223 {G : Told} : ∀ ds rs, F223 ds = some rs → ∃ fuel, run G fuel T223 ds = some (0, rs) :=
  Frun_run (fun f hf => by
    have e : callsOf T223 = [] := by kernel_rfl
    rw [e] at hf
    cases hf)
def T225 : T :=
(.join 4
  (.loop [(.v 0), (.c (.flt 0))]
    (.op none (.fcm .geq .f64) [(.v 1), (.c (.flt 4609434218613702656))] <|
    (.ite (.v 3)
      (.op none (.far .quo .f64) [(.v 1), (.c (.flt 4611686018427387904))] <|
      (.op none (.far .add .f64) [(.v 2), (.c (.flt 4607182418800017408))] <|
      (.out 0 [(.v 4), (.v 5)])))
      (.out 1 [(.v 1), (.v 2), (.v 1), (.v 3)]))))
(.join 4
  (.loop [(.v 1), (.v 2)]
    (.op none (.fcm .lss .f64) [(.v 5), (.c (.flt 4604930618986332160))] <|
    (.ite (.v 7)
      (.op none (.far .mul .f64) [(.v 5), (.c (.flt 4611686018427387904))] <|
      (.op none (.far .sub .f64) [(.v 6), (.c (.flt 4607182418800017408))] <|
      (.out 0 [(.v 8), (.v 9)])))
      (.out 1 [(.v 5), (.v 6), (.v 5), (.v 7)]))))
(.op none (.far .sub .f64) [(.v 5), (.c (.flt 4607182418800017408))] <|
(.op none (.far .add .f64) [(.v 5), (.c (.flt 4607182418800017408))] <|
(.op none (.far .quo .f64) [(.v 9), (.v 10)] <|
(.op none (.far .mul .f64) [(.v 11), (.v 11)] <|
(.join 4
  (.loop [(.c (.flt 0)), (.c (.flt 4627730092099895296))]
    (.op none (.fcm .geq .f64) [(.v 14), (.c (.flt 4607182418800017408))] <|
    (.ite (.v 15)
      (.op none (.far .quo .f64) [(.c (.flt 4607182418800017408)), (.v 14)] <|
      (.op none (.far .mul .f64) [(.v 12), (.v 13)] <|
      (.op none (.far .add .f64) [(.v 16), (.v 17)] <|
      (.op none (.far .sub .f64) [(.v 14), (.c (.flt 4611686018427387904))] <|
      (.out 0 [(.v 18), (.v 19)])))))
      (.out 1 [(.v 13), (.v 14), (.v 14), (.v 15)]))))
(.op none (.far .mul .f64) [(.v 11), (.v 13)] <|
(.op none (.far .mul .f64) [(.c (.flt 4611686018427387904)), (.v 17)] <|
(.op none (.far .mul .f64) [(.v 6), (.c (.flt 4604418534313441775))] <|
(.op none (.far .add .f64) [(.v 18), (.v 19)] <|
(.out 0 [(.v 20)]))))))))))))
def G225 : Told := fun _ => fun _ => none
def F225 : List D → Option (List D) := Frun G225 40 T225
theorem run225 {G : Told} : ∀ ds rs, F225 ds = some rs → ∃ fuel, run G fuel T225 ds = some (0, rs) :=
  Frun_run (fun f hf => by
    have e : callsOf T225 = [] := by kernel_rfl
    rw [e] at hf
    cases hf)
def T226 : T :=
(.op none (.fcm .eql .f32) [(.v 0), (.c (.flt 0))] <|
(.ite (.v 1)
  (.call none 222 [(.c (.int (-1)))] 1 <|
  (.op none (.f2f .f64 .f32) [(.v 2)] <|
  (.out 0 [(.v 3)])))
  (.op none (.fcm .lss .f32) [(.v 0), (.c (.flt 0))] <|
  (.op (some ((.v 2), false)) .id [(.v 0)] <|
  (.op (some ((.v 2), false)) .id [(.v 0)] <|
  (.op (some ((.v 2), false)) (.fcm .neq .f32) [(.v 3), (.v 4)] <|
  (.op none .pick [(.v 2), (.c (.bool true)), (.v 5)] <|
  (.ite (.v 6)
    (.call none 223 [] 1 <|
    (.op none (.f2f .f64 .f32) [(.v 7)] <|
    (.out 0 [(.v 8)])))
    (.call none 1 [(.v 0)] 1 <|
    (.op none .bnot [(.v 7)] <|
    (.ite (.v 8)
      (.out 0 [(.v 0)])
      (.op none (.f2f .f32 .f64) [(.v 0)] <|
      (.call none 225 [(.v 9)] 1 <|
      (.op none (.f2f .f64 .f32) [(.v 10)] <|
      (.out 0 [(.v 11)])))))))))))))))
def G226 : Told := fun k => if k = 222 then F222 else if k = 223 then F223 else if k = 1 then F1 else if k = 225 then F225 else fun _ => none
def F226 : List D → Option (List D) := Frun G226 40 T226
theorem run226 {G : Told} (g222 : G 222 = F222) (g223 : G 223 = F223) (g1 : G 1 = F1) (g225 : G 225 = F225) : ∀ ds rs, F226 ds = some rs → ∃ fuel, run G fuel T226 ds = some (0, rs) :=
  Frun_run (fun f hf => by
    have e : callsOf T226 = [222, 223, 1, 225] := by kernel_rfl
    rw [e] at hf
    simp only [List.mem_cons, List.not_mem_nil, or_false] at hf
    rcases hf with rfl | rfl | rfl | rfl
    · exact g222
    · exact g223
    · exact g1
    · exact g225)
def T227 : T :=
(.op none (.fcm .gtr .f64) [(.v 0), (.c (.flt 4641240890982006784))] <|
(.ite (.v 1)
  (.call none 222 [(.c (.int 1))] 1 <|
  (.out 0 [(.v 2)]))
  (.op none (.fcm .lss .f64) [(.v 0), (.c (.flt 13864612927836782592))] <|
  (.ite (.v 2)
    (.out 0 [(.c (.flt 0))])
    (.op none (.far .quo .f64) [(.v 0), (.c (.flt 4643211215818981376))] <|
    (.join 4
      (.loop [(.c (.flt 4607182418800017408)), (.c (.flt 4622945017495814144))]
        (.op none (.fcm .geq .f64) [(.v 5), (.c (.flt 4607182418800017408))] <|
        (.ite (.v 6)
          (.op none (.far .mul .f64) [(.v 3), (.v 4)] <|
          (.op none (.far .quo .f64) [(.v 7), (.v 5)] <|
          (.op none (.far .add .f64) [(.c (.flt 4607182418800017408)), (.v 8)] <|
          (.op none (.far .sub .f64) [(.v 5), (.c (.flt 4607182418800017408))] <|
          (.out 0 [(.v 9), (.v 10)])))))
          (.out 1 [(.v 4), (.v 5), (.v 5), (.v 6)]))))
    (.join 3
      (.loop [(.v 4), (.c (.int 0))]
        (.op none (.icm .lss) [(.v 9), (.c (.int 8))] <|
        (.ite (.v 10)
          (.op none (.far .mul .f64) [(.v 8), (.v 8)] <|
          (.op none (.iar .add .i64) [(.v 9), (.c (.int 1))] <|
          (.out 0 [(.v 11), (.v 12)])))
          (.out 1 [(.v 8), (.v 9), (.v 10)]))))
    (.out 0 [(.v 8)]))))))))
def G227 : Told := fun k => if k = 222 then F222 else fun _ => none
def F227 : List D → Option (List D) := Frun G227 40 T227
theorem run227 {G : Told} (g222 : G 222 = F222) : ∀ ds rs, F227 ds = some rs → ∃ fuel, run G fuel T227 ds = some (0, rs) :=
  Frun_run (fun f hf => by
    have e : callsOf T227 = [222] := by kernel_rfl
    rw [e] at hf
    simp only [List.mem_cons, List.not_mem_nil, or_false] at hf
    rcases hf with rfl
    · exact g222)
def T228 : T :=
(.op none (.f2f .f32 .f64) [(.v 0)] <|
(.call none 227 [(.v 1)] 1 <|
(.out 0 [(.v 2)])))
def G228 : Told := fun k => if k = 227 then F227 else fun _ => none
def F228 : List D → Option (List D) := Frun G228 40 T228
theorem run228 {G : Told} (g227 : G 227 = F227) : ∀ ds rs, F228 ds = some rs → ∃ fuel, run G fuel T228 ds = some (0, rs) :=
  Frun_run (fun f hf => by
    have e : callsOf T228 = [227] := by kernel_rfl
    rw [e] at hf
    simp only [List.mem_cons, List.not_mem_nil, or_false] at hf
    rcases hf with rfl
    · exact g227)
def T229 : T :=
(.call none 228 [(.v 0)] 1 <|
(.op none (.f2f .f64 .f32) [(.v 1)] <|
(.out 0 [(.v 2)])))
def G229 : Told := fun k => if k = 228 then F228 else fun _ => none
def F229 : List D → Option (List D) := Frun G229 40 T229
theorem run229 {G : Told} (g228 : G 228 = F228) : ∀ ds rs, F229 ds = some rs → ∃ fuel, run G fuel T229 ds = some (0, rs) :=
  Frun_run (fun f hf => by
    have e : callsOf T229 = [228] := by kernel_rfl
    rw [e] at hf
    simp only [List.mem_cons, List.not_mem_nil, or_false] at hf
    rcases hf with rfl
    · exact g228)
def T230 : T :=
(.call none 2 [(.v 0)] 1 <|
(.op none .bnot [(.v 1)] <|
(.ite (.v 2)
  (.out 0 [(.c (.flt 0)), (.c (.bool false))])
  (.op none (.far .mul .f32) [(.c (.flt 1077936128)), (.v 0)] <|
  (.op none (.far .mul .f32) [(.c (.flt 1082130432)), (.c (.flt 1078530011))] <|
  (.op none (.far .quo .f32) [(.v 3), (.v 4)] <|
  (.call none 226 [(.v 5)] 1 <|
  (.op none (.far .quo .f32) [(.v 6), (.c (.flt 1077936128))] <|
  (.call none 229 [(.v 7)] 1 <|
  (.out 0 [(.v 8), (.c (.bool true))]))))))))))
def G230 : Told := fun k => if k = 2 then F2 else if k = 226 then F226 else if k = 229 then F229 else fun _ => none
def F230 : List D → Option (List D) := Frun G230 40 T230
theorem run230 {G : Told} (g2 : G 2 = F2) (g226 : G 226 = F226) (g229 : G 229 = F229) : ∀ ds rs, F230 ds = some rs → ∃ fuel, run G fuel T230 ds = some (0, rs) :=
  Frun_run (fun f hf => by
    have e : callsOf T230 = [2, 226, 229] := by kernel_rfl
    rw [e] at hf
    simp only [List.mem_cons, List.not_mem_nil, or_false] at hf
    rcases hf with rfl | rfl | rfl
    · exact g2
    · exact g226
    · exact g229)
def T231 : T :=
(.op none (.far .sub .f64) [(.v 0), (.v 1)] <|
(.op none (.far .sub .f64) [(.v 1), (.v 0)] <|
(.op none (.fmax .f64) [(.v 2), (.v 3)] <|
(.out 0 [(.v 4)]))))
def G231 : Told := fun _ => fun _ => none
def F231 : List D → Option (List D) := Frun G231 40 T231
theorem run231 {G : Told} : ∀ ds rs, F231 ds = some rs → ∃ fuel, run G fuel T231 ds = some (0, rs) :=
  Frun_run (fun f hf => by
    have e : callsOf T231 = [] := by kernel_rfl
    rw [e] at hf
    cases hf)
def T232 : T :=
(.call none 229 [(.v 0)] 1 <|
(.op none (.fneg .f32) [(.v 0)] <|
(.call none 229 [(.v 2)] 1 <|
(.op none (.far .add .f32) [(.v 1), (.v 3)] <|
(.op none (.far .quo .f32) [(.v 4), (.c (.flt 1073741824))] <|
(.out 0 [(.v 5)]))))))
def G232 : Told := fun k => if k = 229 then F229 else fun _ => none
def F232 : List D → Option (List D) := Frun G232 40 T232
theorem run232 {G : Told} (g229 : G 229 = F229) : ∀ ds rs, F232 ds = some rs → ∃ fuel, run G fuel T232 ds = some (0, rs) :=
  Frun_run (fun f hf => by
    have e : callsOf T232 = [229, 229] := by kernel_rfl
    rw [e] at hf
    simp only [List.mem_cons, List.not_mem_nil, or_false] at hf
    rcases hf with rfl | rfl
    · exact g229
    · exact g229)
def T233 : T :=
(.call none 229 [(.v 0)] 1 <|
(.op none (.fneg .f32) [(.v 0)] <|
(.call none 229 [(.v 2)] 1 <|
(.op none (.far .sub .f32) [(.v 1), (.v 3)] <|
(.op none (.far .quo .f32) [(.v 4), (.c (.flt 1073741824))] <|
(.out 0 [(.v 5)]))))))
def G233 : Told := fun k => if k = 229 then F229 else fun _ => none
def F233 : List D → Option (List D) := Frun G233 40 T233
theorem run233 {G : Told} (g229 : G 229 = F229) : ∀ ds rs, F233 ds = some rs → ∃ fuel, run G fuel T233 ds = some (0, rs) :=
  Frun_run (fun f hf => by
    have e : callsOf T233 = [229, 229] := by kernel_rfl
    rw [e] at hf
    simp only [List.mem_cons, List.not_mem_nil, or_false] at hf
    rcases hf with rfl | rfl
    · exact g229
    · exact g229)

/-! ### The inputs, all of them -/
def volP (i : Nat) : Nat := fdiv .f32 (i2f .f32 (1 + (i : Int))) 1090519040
def sizeP (i : Nat) : Nat := fdiv .f32 (i2f .f32 (1 + (i : Int))) 1082130432
def filmP (i : Nat) : Nat := fdiv .f32 (i2f .f32 (1 + (i : Int))) 1090519040
def cubeP (r : Nat) : Nat := fmul .f64 (fmul .f64 (fmul .f64 4616402176923351200 (wide r)) (wide r)) (wide r)
def ok1 (i : Nat) : Bool :=
  match F230 [.flt (volP i)] with
  | some [.flt r, .bool true] => (match F231 [.flt (cubeP r), .flt (wide (volP i))] with
    | some [.flt g] => !fgt .f64 g (fmul .f64 4562254508917369340 (wide (volP i)))
    | _ => false)
  | _ => false
def ok2 (a b f : Nat) : Bool :=
  match F8 [.flt (sizeP a), .flt (sizeP b)], F5 [.flt (filmP f), .flt (sizeP a)], F5 [.flt (filmP f), .flt (sizeP b)] with
  | some [.flt w, .bool t], some [.flt p, .bool true], some [.flt q, .bool true] => (t == !feq .f32 (sizeP a) (sizeP b)) && (!t ||
    (match F5 [.flt (filmP f), .flt w] with
    | some [.flt v, .bool true] => (match F231 [.flt (wide p), .flt (wide q)] with
      | some [.flt g] => (match F231 [.flt g, .flt (wide v)] with
        | some [.flt h] => flt .f64 h (fmul .f64 4562254508917369340 (fadd .f64 4607182418800017408 (wide v)))
        | _ => false)
      | _ => false)
    | _ => false))
  | _, _, _ => false
def ok3 (a : Nat) : Bool :=
  match F232 [.flt (sizeP a)], F233 [.flt (sizeP a)] with
  | some [.flt c], some [.flt s] => (match F231 [.flt (fsub .f64 (fmul .f64 (wide c) (wide c)) (fmul .f64 (wide s) (wide s))), .flt 4607182418800017408] with
    | some [.flt g] => flt .f64 g 4562254508917369340
    | _ => false)
  | _, _ => false

end Vs

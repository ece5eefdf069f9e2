/- Layer 16: the closures of plain sends and receives; what a waiting task has of its own. Layers 15, 16: a plain world: tasks that send and receive at channels, as lists; how the memory shows it. Layers 15, 16: what changes in the plain world when one task changes. Layers 15, 16: a waiting task is told and woken; TrySend and TryRecv in the plain world. Layers 15, 16: TrySend, TryRecv in the plain world. Layers 15, 16: Close in the plain world. Layers 15, 16: Send in the plain world. Layers 15, 16: Send in the plain world: the steps of the plain relation. Layers 15, 16: Send in the plain world: the walk. Layers 15, 16: Recv in the plain world. Layers 15, 16: Yield and Step in the plain world. -/
import Derived.Test.YtbaidcnalkdhgaaGreatWn
import Derived.Test.YtbaidcnalkdhgaaGreatEq
import Derived.Test.YtbaidcnalkdhgaaGreatEy
set_option maxRecDepth 100000
namespace Go.Proofs.YtbaidcnalkdhgaaGreat
open Go Go.Eng
abbrev Bx := Nat × List Value × TypeId
theorem _root_.Go.Eng.Sp.frame {P : Program} {g : FuncId} {args : Array Value} {A R : Asr} {B : Value → Asr} [Lcl R] (h : Sp P g args A B) : Sp P g args (A * R) (fun u => B u * R) := fun w F hA => h.at (At.init hA)
theorem _root_.Go.Eng.Sp.cong {P : Program} {g : FuncId} {args : Array Value} {A A' : Asr} {B B' : Value → Asr} (h : Sp P g args A B) (ha : A' = A) (hb : ∀ u x F, B u x F → B' u x F) : Sp P g args A' B' := fun w F hA => (h w F (ha ▸ hA)).mono fun u w' S => S.weak (hb u)
/-- a waiting task's own boxes: told (s: a sender; r: a receiver, with the value) -/
inductive Gh where
  | none
  | s (thb tkb tb n : Nat) (ok : Bool)
  | r (thb tkb vx tb n : Nat) (v : Int) (ok : Bool)
def GhA : Gh → Asr
  | .none => Emp
  | .s _ _ tb _ ok => Pt tb [.bool ok] 4
  | .r _ _ vx tb _ v ok => Pt vx [.int .i64 v] 3 * Pt tb [.bool ok] 4
instance instLclGhA (g : Gh) : Lcl (GhA g) := by cases g <;> (unfold GhA; infer_instance)
def GhsA (gs : List Gh) : Asr := Big (gs.map GhA)
instance instLclGhsA (gs : List Gh) : Lcl (GhsA gs) := by unfold GhsA; infer_instance
theorem ghs_pick {gs : List Gh} {i : Nat} {g : Gh} (h : gs[i]? = some g) : GhsA gs = GhA g * GhsA (gs.eraseIdx i) := big_map_pick GhA h
theorem ghs_put {gs : List Gh} {i : Nat} (g : Gh) (h : i < gs.length) : GhsA (gs.set i g) = GhA g * GhsA (gs.eraseIdx i) := big_map_put GhA g h
theorem ghs_snoc (gs : List Gh) : GhsA (gs ++ [.none]) = GhsA gs := by unfold GhsA; rw [big_map_snoc]; exact emp_star _
theorem send3 (tb : Nat) (b ok : Bool) : Sp Tryz.prog 93 #[.bool ok, pt tb] (Pt tb [.bool b] 4) (fun _ => Pt tb [.bool ok] 4) := by
  intro w F hA
  have S : At (Pt tb [.bool b] 4) w F w := At.init hA
  have S1 := S.ac (star_emp _).symm
  have hb := S1.blk
  refine rets_of Tryz.func93 rfl Tryz.ntmps93 rfl rfl (by kernel_rfl) ?_
  (apply vC_region; (refine vE rfl ?_); ((apply vL_skip); (case h => ((apply ops_store1); exact norm_eq rfl; exact norm_eq rfl; (first | rfl | assumption); assumption; (first | decide | exact of_decide_eq_true rfl | (simp; done))))); apply vL_nil)
  (first | apply ret0 | apply ret0n)
  exact (S1.set (cs' := [.bool ok])).ac (star_emp _)
theorem recv3 (vx tb : Nat) (v0 v : Int) (b ok : Bool) : Sp Tryz.prog 96 #[.int .i64 v, .bool ok, pt vx, pt tb] (Pt vx [.int .i64 v0] 3 * Pt tb [.bool b] 4) (fun _ => Pt vx [.int .i64 v] 3 * Pt tb [.bool ok] 4) := by
  intro w F hA
  have S : At (Pt vx [.int .i64 v0] 3 * Pt tb [.bool b] 4) w F w := At.init hA
  have hb := S.blk
  have hb2 := S.swap.blk
  haveI n1 : NeB tb vx := ⟨Blk.ne_type hb2 hb (by decide)⟩
  haveI n2 : NeB vx tb := ⟨Blk.ne_type hb hb2 (by decide)⟩
  refine rets_of Tryz.func96 rfl Tryz.ntmps96 rfl rfl (by kernel_rfl) ?_
  (apply vC_region; (iterate 2 ((refine vE rfl ?_))); ((apply vL_skip); (case h => ((apply ops_store1); exact norm_eq rfl; exact norm_eq rfl; (first | rfl | assumption); assumption; (first | decide | exact of_decide_eq_true rfl | (simp; done))))); ((apply vL_skip); (case h => ((apply ops_store1); exact norm_eq rfl; exact norm_eq rfl; (first | rfl | assumption); infer_instance; (first | decide | exact of_decide_eq_true rfl | (simp; done))))); apply vL_nil)
  (first | apply ret0 | apply ret0n)
  exact (((S.set (cs' := [.int .i64 v])).swap).set (cs' := [.bool ok])).swap
section
variable {w w' w0 : World} {F F0 : Nat → Prop} {rb : Nat} {now : Option Nat} {rest : Int} {ready : List Int} {ts : List (Nat × TK)} {R : Asr}
/-- a ticket's fire: its task is woken -/
def woken (x : Nat × TK) (fb yb : Nat) : Nat × TK := (x.1, { x.2 with next := ⟨.func (.func 156) #[] #[pt fb, pt yb], rfl⟩, parked := false })
def wokenK (x : Nat × TK) (fb yb : Nat) (kb : List Bx) : List Bx := (fb, [x.2.wake.1], 135) :: (yb, [.int .i64 0], 3) :: kb
theorem fire_s (tkb : Nat) (kb : List Bx) {i : Nat} {x : Nat × TK} (hk : (tkb, [pt x.1], 34) ∈ kb) (hx : ts[i]? = some x) (hl : ready.length ≤ 256) (hp : x.2.parked = true) :
    Sp Tryz.prog 92 #[pt tkb] (RtA rb now rest ready ts * Bxl kb) (fun _ => Ex fun fb : Nat => Ex fun yb : Nat => RtA rb now rest (readyL ready i) (ts.set i (woken x fb yb)) * Bxl (wokenK x fb yb kb)) := by
  intro w F hA
  have S : At (RtA rb now rest ready ts * Bxl kb) w F w := At.init hA
  have hb := (S.swap).bx hk
  refine rets_of Tryz.func92 rfl Tryz.ntmps92 rfl rfl (by kernel_rfl) ?_
  (apply vC_region; ((apply vL_val); (case h => ((apply opv_loadb1); exact rfl; exact rfl; assumption; exact rfl))))
  refine vL_callF rfl (wakeA S hx 0 hl hp) rfl ?_
  rintro _ w1 ⟨rfl, fb, yb, S1⟩
  (apply vL_nil)
  (first | apply ret0 | apply ret0n)
  obtain ⟨F1, a, hf, hn⟩ := S1.out
  exact ⟨F1, ⟨fb, yb, a⟩, hf, hn⟩
theorem fire_r (tkb : Nat) (kb : List Bx) {i : Nat} {x : Nat × TK} (hk : (tkb, [pt x.1], 34) ∈ kb) (hx : ts[i]? = some x) (hl : ready.length ≤ 256) (hp : x.2.parked = true) :
    Sp Tryz.prog 95 #[pt tkb] (RtA rb now rest ready ts * Bxl kb) (fun _ => Ex fun fb : Nat => Ex fun yb : Nat => RtA rb now rest (readyL ready i) (ts.set i (woken x fb yb)) * Bxl (wokenK x fb yb kb)) := by
  intro w F hA
  have S : At (RtA rb now rest ready ts * Bxl kb) w F w := At.init hA
  have hb := (S.swap).bx hk
  refine rets_of Tryz.func95 rfl Tryz.ntmps95 rfl rfl (by kernel_rfl) ?_
  (apply vC_region; ((apply vL_val); (case h => ((apply opv_loadb1); exact rfl; exact rfl; assumption; exact rfl))))
  refine vL_callF rfl (wakeA S hx 0 hl hp) rfl ?_
  rintro _ w1 ⟨rfl, fb, yb, S1⟩
  (apply vL_nil)
  (first | apply ret0 | apply ret0n)
  obtain ⟨F1, a, hf, hn⟩ := S1.out
  exact ⟨F1, ⟨fb, yb, a⟩, hf, hn⟩
end
/-- what calls a task's then-function: of a sender, of a receiver -/
theorem send1_calls {w : World} {thb tb : Nat} {g : FuncId} {cap : List Value} {n : Int} {ok : Bool} [FnOk Tryz.prog g] (hb : Blk w.heap thb [.func (.func g) #[] cap.toArray] 36) (ht : Blk w.heap tb [.bool ok] 4) {R : Value → World → Prop} (h : Rets Tryz.prog g (.bool ok :: cap).toArray w fun _ w' => R (.tuple #[]) w') :
    Rets Tryz.prog 90 #[.int .i64 n, pt thb, pt tb] w R := by
  refine rets_of Tryz.func90 rfl Tryz.ntmps90 rfl rfl (by kernel_rfl) ?_
  (apply vC_region; (iterate 2 (((apply vL_val); (case h => ((apply opv_loadb1); exact rfl; exact rfl; assumption; exact rfl))))))
  refine vL_callF rfl (h) rfl ?_
  intro u w' hR
  (apply vL_nil)
  (first | apply ret0 | apply ret0n)
  exact hR
theorem recv1_calls {w : World} {thb vx tb : Nat} {g : FuncId} {cap : List Value} {n v : Int} {ok : Bool} [FnOk Tryz.prog g] (hb : Blk w.heap thb [.func (.func g) #[] cap.toArray] 39) (hv : Blk w.heap vx [.int .i64 v] 3) (ht : Blk w.heap tb [.bool ok] 4) {R : Value → World → Prop} (h : Rets Tryz.prog g (.int .i64 v :: .bool ok :: cap).toArray w fun _ w' => R (.tuple #[]) w') :
    Rets Tryz.prog 94 #[.int .i64 n, pt thb, pt vx, pt tb] w R := by
  refine rets_of Tryz.func94 rfl Tryz.ntmps94 rfl rfl (by kernel_rfl) ?_
  (apply vC_region; (iterate 3 (((apply vL_val); (case h => ((apply opv_loadb1); exact rfl; exact rfl; assumption; exact rfl))))))
  refine vL_callF rfl (h) rfl ?_
  intro u w' hR
  (apply vL_nil)
  (first | apply ret0 | apply ret0n)
  exact hR
theorem wake1_calls {w : World} {fb yb : Nat} {g : FuncId} {cap : List Value} {n : Int} [FnOk Tryz.prog g] (hb : Blk w.heap fb [.func (.func g) #[] cap.toArray] 135) (hy : Blk w.heap yb [.int .i64 n] 3) {R : Value → World → Prop} (h : Rets Tryz.prog g (.int .i64 n :: cap).toArray w fun _ w' => R (.tuple #[]) w') :
    Rets Tryz.prog 156 #[pt fb, pt yb] w R := by
  refine rets_of Tryz.func156 rfl Tryz.ntmps156 rfl rfl (by kernel_rfl) ?_
  (apply vC_region; (iterate 2 (((apply vL_val); (case h => ((apply opv_loadb1); exact rfl; exact rfl; assumption; exact rfl))))))
  refine vL_callF rfl (h) rfl ?_
  intro u w' hR
  (apply vL_nil)
  (first | apply ret0 | apply ret0n)
  exact hR
theorem spawn1_calls {w : World} {fb tx tb : Nat} {g : FuncId} {cap : List Value} [FnOk Tryz.prog g] (hb : Blk w.heap fb [.func (.func g) #[] cap.toArray] 37) (ht : Blk w.heap tx [pt tb] 34) {R : Value → World → Prop} (h : Rets Tryz.prog g (pt tb :: cap).toArray w fun _ w' => R (.tuple #[]) w') :
    Rets Tryz.prog 98 #[pt fb, pt tx] w R := by
  refine rets_of Tryz.func98 rfl Tryz.ntmps98 rfl rfl (by kernel_rfl) ?_
  (apply vC_region; (iterate 2 (((apply vL_val); (case h => ((apply opv_loadb1); exact rfl; exact rfl; assumption; exact rfl))))))
  refine vL_callF rfl (h) rfl ?_
  intro u w' hR
  (apply vL_nil)
  (first | apply ret0 | apply ret0n)
  exact hR
end Go.Proofs.YtbaidcnalkdhgaaGreat
set_option maxRecDepth 100000
namespace Go.Proofs.YtbaidcnalkdhgaaGreat
open Go Go.Eng
/-- what becomes of a task: over; running; in the midst of a send, a receive; ready (told by a send, a receive; or by its law); waiting (to send, to receive; or by its law) -/
inductive St (κ : Type) where
  | over
  | run
  | mS (k : κ) (tkb tb : Nat)
  | mR (k : κ) (tkb vx tb : Nat)
  | rdyS (k : κ) (ok : Bool)
  | rdyR (k : κ) (v : Int) (ok : Bool)
  | rdyY (k : κ)
  | wS (k : κ) (j : Nat) (v : Int)
  | wR (k : κ) (j : Nat)
  | wX (k : κ)
def St.rdy {κ : Type} : St κ → Bool
  | .rdyS _ _ => true
  | .rdyR _ _ _ => true
  | .rdyY _ => true
  | _ => false
def St.isRun {κ : Type} : St κ → Bool
  | .run => true
  | _ => false
def St.parked {κ : Type} : St κ → Bool
  | .mS _ _ _ => true
  | .mR _ _ _ _ => true
  | .wS _ _ _ => true
  | .wR _ _ => true
  | .wX _ => true
  | _ => false
def St.isOver {κ : Type} : St κ → Bool
  | .over => true
  | _ => false
def St.waits {κ : Type} : St κ → Bool
  | .wS _ _ _ => true
  | .wR _ _ => true
  | _ => false
structure C16 where
  cb : Nat
  size : Int
  buf : List Int
  snd : List Nat
  rcv : List Nat
  closed : Bool
structure PS (κ : Type) where
  sts : List (St κ)
  tbs : List Nat
  cs : List C16
  line : List Int
/-- a law's own functions: what goes on behind a send, a receive; a task's next turn; what a task of its own kind waits with -/
structure LawP (κ : Type) where
  th : κ → List Bx → Value → Prop
  tr : κ → List Bx → Value → Prop
  yd : κ → Nat → List Bx → Value → Prop
  xd : κ → Nat → List Bx → Value → Prop
  mth : ∀ {k kb kb' v}, (∀ b ∈ kb, b ∈ kb') → th k kb v → th k kb' v
  mtr : ∀ {k kb kb' v}, (∀ b ∈ kb, b ∈ kb') → tr k kb v → tr k kb' v
  myd : ∀ {k t kb kb' v}, (∀ b ∈ kb, b ∈ kb') → yd k t kb v → yd k t kb' v
  mxd : ∀ {k t kb kb' v}, (∀ b ∈ kb, b ∈ kb') → xd k t kb v → xd k t kb' v
/-- the memory's side -/
structure Q16 where
  ts : List (Nat × TK)
  cs : List CH
  tks : List TKT
  ghs : List Gh
section
variable {κ : Type}
def MidS (L : LawP κ) (kb : List Bx) (x : Nat × TK) (g : Gh) (k : κ) (wk : Value) (n : Nat) (ok : Bool) : Prop :=
  ∃ (thb tkb tb : Nat) (f : Value), g = .s thb tkb tb n ok ∧ wk = .func (.func 90) #[] #[pt thb, pt tb] ∧ (thb, [f], 36) ∈ kb ∧ L.th k kb f ∧ (tkb, [pt x.1], 34) ∈ kb
def MidR (L : LawP κ) (kb : List Bx) (x : Nat × TK) (g : Gh) (k : κ) (wk : Value) (n : Nat) (v : Int) (ok : Bool) : Prop :=
  ∃ (thb tkb vx tb : Nat) (f : Value), g = .r thb tkb vx tb n v ok ∧ wk = .func (.func 94) #[] #[pt thb, pt vx, pt tb] ∧ (thb, [f], 39) ∈ kb ∧ L.tr k kb f ∧ (tkb, [pt x.1], 34) ∈ kb
/-- the next turn of a woken task -/
def Woken (kb : List Bx) (nx wk : Value) : Prop := ∃ fb yb : Nat, nx = .func (.func 156) #[] #[pt fb, pt yb] ∧ (fb, [wk], 135) ∈ kb ∧ (yb, [.int .i64 0], 3) ∈ kb
def TktS (tks : List TKT) (g : Gh) (n : Nat) : Prop := ∃ (thb tkb tb : Nat) (ok : Bool) (t : TKT), g = .s thb tkb tb n ok ∧ tks[n]? = some t ∧ t.fired = false ∧ t.fire.1 = .func (.func 92) #[] #[pt tkb]
def TktR (tks : List TKT) (g : Gh) (n : Nat) : Prop := ∃ (thb tkb vx tb : Nat) (v : Int) (ok : Bool) (t : TKT), g = .r thb tkb vx tb n v ok ∧ tks[n]? = some t ∧ t.fired = false ∧ t.fire.1 = .func (.func 95) #[] #[pt tkb]
/-- a task -/
def RelT (L : LawP κ) (kb : List Bx) (tks : List TKT) (x : Nat × TK) (g : Gh) : St κ → Prop
  | .over => True
  | .run => True
  | .mS k tkb tb => ∃ n ok, MidS L kb x g k x.2.wake.1 n ok ∧ ∃ thb, g = .s thb tkb tb n ok
  | .mR k tkb vx tb => ∃ n v ok, MidR L kb x g k x.2.wake.1 n v ok ∧ ∃ thb, g = .r thb tkb vx tb n v ok
  | .rdyS k ok => ∃ n wk, MidS L kb x g k wk n ok ∧ Woken kb x.2.next.1 wk
  | .rdyR k v ok => ∃ n wk, MidR L kb x g k wk n v ok ∧ Woken kb x.2.next.1 wk
  | .rdyY k => L.yd k x.1 kb x.2.next.1
  | .wS k _ _ => ∃ n ok, MidS L kb x g k x.2.wake.1 n ok ∧ TktS tks g n
  | .wR k _ => ∃ n v ok, MidR L kb x g k x.2.wake.1 n v ok ∧ TktR tks g n
  | .wX k => L.xd k x.1 kb x.2.wake.1
/-- which ticket a task's box speaks of -/
def Gh.tkt : Gh → Option Nat
  | .none => Option.none
  | .s _ _ _ n _ => some n
  | .r _ _ _ _ n _ _ => some n
def EntS (q : Q16) (S : PS κ) (j : Nat) (e : SE) (m : Nat) : Prop := ∃ (k : κ) (v : Int) (thb tkb tb n : Nat) (ok : Bool) (t : TKT), S.sts[m]? = some (.wS k j v) ∧ q.ghs[m]? = some (.s thb tkb tb n ok) ∧ q.tks[n]? = some t ∧ e.k = t.b ∧ e.v = v ∧ e.f.1 = .func (.func 93) #[] #[pt tb]
def EntR (q : Q16) (S : PS κ) (j : Nat) (e : RE) (m : Nat) : Prop := ∃ (k : κ) (thb tkb vx tb n : Nat) (v : Int) (ok : Bool) (t : TKT), S.sts[m]? = some (.wR k j) ∧ q.ghs[m]? = some (.r thb tkb vx tb n v ok) ∧ q.tks[n]? = some t ∧ e.k = t.b ∧ e.f.1 = .func (.func 96) #[] #[pt vx, pt tb]
/-- two lists go together -/
def Zip {α β : Type} (R : α → β → Prop) (l : List α) (l' : List β) : Prop := l.length = l'.length ∧ ∀ (p : Nat) a b, l[p]? = some a → l'[p]? = some b → R a b
structure RelC (q : Q16) (S : PS κ) (j : Nat) (c : CH) (d : C16) : Prop where
  cb : c.cb = d.cb
  size : c.size = d.size
  buf : c.buf = d.buf
  closed : c.closed = d.closed
  room : (d.buf.length : Int) ≤ d.size ∧ d.size ≤ 64
  nds : d.snd.Nodup
  ndr : d.rcv.Nodup
  snd : Zip (EntS q S j) c.snd d.snd
  rcv : Zip (EntR q S j) c.rcv d.rcv
structure PRel (L : LawP κ) (q : Q16) (nowi : Option Nat) (kb : List Bx) (S : PS κ) : Prop where
  lt : q.ts.length = S.sts.length
  lg : q.ghs.length = S.sts.length
  lc : q.cs.length = S.cs.length
  tbs : S.tbs = q.ts.map (·.1)
  few : S.sts.length ≤ 200
  tk : ∀ (i : Nat) x g s, q.ts[i]? = some x → q.ghs[i]? = some g → S.sts[i]? = some s → RelT L kb q.tks x g s ∧ x.2.parked = s.parked ∧ x.2.over = s.isOver
  said : ∀ (i : Nat) x s, nowi = some i → q.ts[i]? = some x → S.sts[i]? = some s → x.2.said = !s.isRun
  run : ∀ (i : Nat) s, S.sts[i]? = some s → s.isRun = true → nowi = some i
  nowok : ∀ i, nowi = some i → i < S.sts.length
  ch : ∀ (j : Nat) c d, q.cs[j]? = some c → S.cs[j]? = some d → RelC q S j c d
  nd : S.line.Nodup
  nn : ∀ z ∈ S.line, 0 ≤ z
  rdy : ∀ i : Nat, ((i : Int) ∈ S.line ↔ ∃ s, S.sts[i]? = some s ∧ s.rdy = true)
  tn : ∀ (i j : Nat) t u, q.tks[i]? = some t → q.tks[j]? = some u → t.b = u.b → i = j
  dn : ∀ (i m : Nat) g g' s s' n, q.ghs[i]? = some g → q.ghs[m]? = some g' → S.sts[i]? = some s → S.sts[m]? = some s' → s.waits = true → s'.waits = true → g.tkt = some n → g'.tkt = some n → i = m
  nov : ∀ i s, nowi = some i → S.sts[i]? = some s → s.isOver = false
def nowB (S : PS κ) (nowi : Option Nat) : Option Nat := nowi.bind fun i => S.tbs[i]?
def PWA (L : LawP κ) (rb : Nat) (nowi : Option Nat) (rest : Int) (kb : List Bx) (S : PS κ) : Asr := Ex fun q : Q16 => Pu (PRel L q nowi kb S) * (RtA rb (nowB S nowi) rest S.line q.ts * (Big (q.cs.map (ChA_i rb)) * (TksA q.tks * (Bxl kb * GhsA q.ghs))))
instance instLclPWA (L : LawP κ) (rb : Nat) (nowi : Option Nat) (rest : Int) (kb : List Bx) (S : PS κ) : Lcl (PWA L rb nowi rest kb S) := by unfold PWA; infer_instance
variable {L : LawP κ} {q q' : Q16} {nowi : Option Nat} {kb kb' : List Bx} {S S' : PS κ} {rb : Nat} {rest : Int} {w0 w w' : World} {F0 : Nat → Prop} {R : Asr}
theorem RelT.mono {tks : List TKT} {x : Nat × TK} {g : Gh} {s : St κ} (h : ∀ b ∈ kb, b ∈ kb') (r : RelT L kb tks x g s) : RelT L kb' tks x g s := by
  have hS : ∀ {k wk n ok}, MidS L kb x g k wk n ok → MidS L kb' x g k wk n ok := fun ⟨a, b, c, f, h1, h2, h3, h4, h5⟩ => ⟨a, b, c, f, h1, h2, h _ h3, L.mth h h4, h _ h5⟩
  have hR : ∀ {k wk n v ok}, MidR L kb x g k wk n v ok → MidR L kb' x g k wk n v ok := fun ⟨a, b, c, d, f, h1, h2, h3, h4, h5⟩ => ⟨a, b, c, d, f, h1, h2, h _ h3, L.mtr h h4, h _ h5⟩
  have hW : ∀ {nx wk}, Woken kb nx wk → Woken kb' nx wk := fun ⟨a, b, h1, h2, h3⟩ => ⟨a, b, h1, h _ h2, h _ h3⟩
  cases s with
  | over => trivial
  | run => trivial
  | mS k a b => obtain ⟨n, ok, r, r'⟩ := r; exact ⟨n, ok, hS r, r'⟩
  | mR k a b c => obtain ⟨n, v, ok, r, r'⟩ := r; exact ⟨n, v, ok, hR r, r'⟩
  | rdyS k ok => obtain ⟨n, wk, r, r'⟩ := r; exact ⟨n, wk, hS r, hW r'⟩
  | rdyR k v ok => obtain ⟨n, wk, r, r'⟩ := r; exact ⟨n, wk, hR r, hW r'⟩
  | rdyY k => exact L.myd h r
  | wS k j v => obtain ⟨n, ok, r, r'⟩ := r; exact ⟨n, ok, hS r, r'⟩
  | wR k j => obtain ⟨n, v, ok, r, r'⟩ := r; exact ⟨n, v, ok, hR r, r'⟩
  | wX k => exact L.mxd h r
theorem PRel.mono (h : ∀ b ∈ kb, b ∈ kb') (p : PRel L q nowi kb S) : PRel L q nowi kb' S :=
  ⟨p.lt, p.lg, p.lc, p.tbs, p.few, fun i x g s hx hg hs => ⟨(p.tk i x g s hx hg hs).1.mono h, (p.tk i x g s hx hg hs).2⟩, p.said, p.run, p.nowok, p.ch, p.nd, p.nn, p.rdy, p.tn, p.dn, p.nov⟩
theorem pw_open (S1 : At (PWA L rb nowi rest kb S * R) w0 F0 w) : ∃ q, PRel L q nowi kb S ∧ At (RtA rb (nowB S nowi) rest S.line q.ts * (Big (q.cs.map (ChA_i rb)) * (TksA q.tks * (Bxl kb * (GhsA q.ghs * R))))) w0 F0 w := by
  unfold PWA at S1
  obtain ⟨q, S1⟩ := S1.ex
  obtain ⟨hp, S1⟩ := (S1.ac (star_assoc _ _ _)).pure
  exact ⟨q, hp, S1.ac (by ac_rfl)⟩
theorem pw_shut (hp : PRel L q nowi kb S) (S1 : At (RtA rb (nowB S nowi) rest S.line q.ts * (Big (q.cs.map (ChA_i rb)) * (TksA q.tks * (Bxl kb * (GhsA q.ghs * R))))) w0 F0 w) : At (PWA L rb nowi rest kb S * R) w0 F0 w := by
  unfold PWA
  refine At.intro q ?_
  exact ((S1.add hp).ac (by ac_rfl))
/-- a box of the law's own joins the frozen ones -/
theorem pw_box {b : Nat} {cs : List Value} {T : TypeId} (S1 : At (Pt b cs T * (PWA L rb nowi rest kb S * R)) w0 F0 w) : At (PWA L rb nowi rest ((b, cs, T) :: kb) S * R) w0 F0 w := by
  obtain ⟨q, hp, S2⟩ := pw_open (S1.ac (show _ = PWA L rb nowi rest kb S * (Pt b cs T * R) by ac_rfl))
  refine pw_shut (hp.mono (fun x hx => List.mem_cons_of_mem _ hx)) ?_
  rw [bxl_cons]
  exact S2.ac (by ac_rfl)
theorem pw_bx {b : Nat} {cs : List Value} {T : TypeId} (S1 : At (PWA L rb nowi rest kb S * R) w0 F0 w) (h : (b, cs, T) ∈ kb) : Blk w.heap b cs T := by
  obtain ⟨q, hp, S2⟩ := pw_open S1
  exact (S2.ac (show _ = Bxl kb * (RtA rb (nowB S nowi) rest S.line q.ts * (Big (q.cs.map (ChA_i rb)) * (TksA q.tks * (GhsA q.ghs * R)))) by ac_rfl)).bx h
end
end Go.Proofs.YtbaidcnalkdhgaaGreat
set_option maxRecDepth 100000
namespace Go.Proofs.YtbaidcnalkdhgaaGreat
open Go Go.Eng
theorem len_sub_q {α : Type} [DecidableEq α] : ∀ {l l' : List α}, l.Nodup → (∀ x ∈ l, x ∈ l') → l.length ≤ l'.length
  | [], l', _, _ => by simp
  | a :: l, l', hn, hs => by
    obtain ⟨h1, h2⟩ := List.nodup_cons.1 hn
    have ha := hs a (List.mem_cons_self)
    have := len_sub_q (l := l) (l' := l'.erase a) h2 (fun x hx => (List.mem_erase_of_ne (by intro e; subst e; exact h1 hx)).2 (hs x (List.mem_cons_of_mem _ hx)))
    have h3 := List.length_erase_of_mem ha
    have h4 : 0 < l'.length := List.length_pos_of_mem ha
    simp only [List.length_cons]
    omega
/-- tickets stay where they were -/
def TkKeep (a b : List TKT) : Prop := ∀ (n : Nat) t, a[n]? = some t → ∃ t', b[n]? = some t' ∧ t'.b = t.b
theorem TkKeep.refl (a : List TKT) : TkKeep a a := fun n t h => ⟨t, h, rfl⟩
theorem TkKeep.snoc (a : List TKT) (t : TKT) : TkKeep a (a ++ [t]) := fun n u h => ⟨u, by rw [List.getElem?_append_left (List.getElem?_eq_some_iff.1 h).1]; exact h, rfl⟩
theorem TkKeep.fired {a : List TKT} {n : Nat} {t : TKT} (h : a[n]? = some t) : TkKeep a (a.set n { t with fired := true }) := fun m u hu => by
  rw [List.getElem?_set]
  by_cases e : n = m
  · subst e
    rw [if_pos rfl, if_pos (List.getElem?_eq_some_iff.1 h).1]
    rw [h] at hu
    cases hu
    exact ⟨_, rfl, rfl⟩
  · rw [if_neg e]
    exact ⟨u, hu, rfl⟩
section
variable {κ : Type} {L : LawP κ} {q q' : Q16} {nowi nowi' : Option Nat} {kb kb' : List Bx} {S S' : PS κ}
theorem EntS.keep {j : Nat} {e : SE} {m : Nat} (h : EntS q S j e m) (hs : S'.sts[m]? = S.sts[m]?) (hg : q'.ghs[m]? = q.ghs[m]?) (ht : TkKeep q.tks q'.tks) : EntS q' S' j e m := by
  obtain ⟨k, v, thb, tkb, tb, n, ok, t, h1, h2, h3, h4, h5, h6⟩ := h
  obtain ⟨t', h7, h8⟩ := ht n t h3
  exact ⟨k, v, thb, tkb, tb, n, ok, t', by rw [hs]; exact h1, by rw [hg]; exact h2, h7, by rw [h8]; exact h4, h5, h6⟩
theorem EntR.keep {j : Nat} {e : RE} {m : Nat} (h : EntR q S j e m) (hs : S'.sts[m]? = S.sts[m]?) (hg : q'.ghs[m]? = q.ghs[m]?) (ht : TkKeep q.tks q'.tks) : EntR q' S' j e m := by
  obtain ⟨k, thb, tkb, vx, tb, n, v, ok, t, h1, h2, h3, h4, h6⟩ := h
  obtain ⟨t', h7, h8⟩ := ht n t h3
  exact ⟨k, thb, tkb, vx, tb, n, v, ok, t', by rw [hs]; exact h1, by rw [hg]; exact h2, h7, by rw [h8]; exact h4, h6⟩
theorem RelC.keep {j : Nat} {c : CH} {d : C16} (h : RelC q S j c d) (hs : ∀ m, m ∈ d.snd ∨ m ∈ d.rcv → S'.sts[m]? = S.sts[m]? ∧ q'.ghs[m]? = q.ghs[m]?) (ht : TkKeep q.tks q'.tks) : RelC q' S' j c d :=
  ⟨h.cb, h.size, h.buf, h.closed, h.room, h.nds, h.ndr, ⟨h.snd.1, fun p a b ha hb => (h.snd.2 p a b ha hb).keep (hs b (.inl (List.mem_of_getElem? hb))).1 (hs b (.inl (List.mem_of_getElem? hb))).2 ht⟩, ⟨h.rcv.1, fun p a b ha hb => (h.rcv.2 p a b ha hb).keep (hs b (.inr (List.mem_of_getElem? hb))).1 (hs b (.inr (List.mem_of_getElem? hb))).2 ht⟩⟩
theorem Zip.mem {α β : Type} {R : α → β → Prop} {l : List α} {l' : List β} (h : Zip R l l') {b : β} (hb : b ∈ l') : ∃ a ∈ l, R a b := by
  obtain ⟨p, hp, e⟩ := List.getElem_of_mem hb
  have h2 : p < l.length := by rw [h.1]; exact hp
  exact ⟨l[p], List.getElem_mem h2, h.2 p _ _ (List.getElem?_eq_getElem h2) (by rw [List.getElem?_eq_getElem hp, e])⟩
theorem Zip.mem' {α β : Type} {R : α → β → Prop} {l : List α} {l' : List β} (h : Zip R l l') {a : α} (ha : a ∈ l) : ∃ b ∈ l', R a b := by
  obtain ⟨p, hp, e⟩ := List.getElem_of_mem ha
  have h2 : p < l'.length := by rw [← h.1]; exact hp
  exact ⟨l'[p], List.getElem_mem h2, h.2 p _ _ (by rw [List.getElem?_eq_getElem hp, e]) (List.getElem?_eq_getElem h2)⟩
theorem Zip.nil {α β : Type} {R : α → β → Prop} : Zip R ([] : List α) ([] : List β) := ⟨rfl, fun p a b h => by cases h⟩
theorem Zip.tail {α β : Type} {R : α → β → Prop} {a : α} {l : List α} {b : β} {l' : List β} (h : Zip R (a :: l) (b :: l')) : R a b ∧ Zip R l l' :=
  ⟨h.2 0 a b rfl rfl, by have := h.1; simp only [List.length_cons] at this; omega, fun p x y hx hy => h.2 (p + 1) x y (by simpa using hx) (by simpa using hy)⟩
theorem Zip.snoc {α β : Type} {R : α → β → Prop} {l : List α} {l' : List β} (h : Zip R l l') {a : α} {b : β} (r : R a b) : Zip R (l ++ [a]) (l' ++ [b]) := ⟨by simp [h.1], fun p x y hx hy => by
  rcases Nat.lt_trichotomy p l.length with hp | hp | hp
  · rw [List.getElem?_append_left hp] at hx
    rw [List.getElem?_append_left (by rw [← h.1]; exact hp)] at hy
    exact h.2 p x y hx hy
  · subst hp
    rw [List.getElem?_append_right (Nat.le_refl _), Nat.sub_self] at hx
    rw [h.1, List.getElem?_append_right (Nat.le_refl _), Nat.sub_self] at hy
    cases hx; cases hy; exact r
  · rw [List.getElem?_eq_none (by simp; omega)] at hx
    cases hx⟩
theorem Zip.cons' {α β : Type} {R : α → β → Prop} {a : α} {l : List α} {l' : List β} (h : Zip R (a :: l) l') : ∃ b l2, l' = b :: l2 := by
  cases l' with
  | nil => have := h.1; simp at this
  | cons b l2 => exact ⟨b, l2, rfl⟩
theorem Zip.nil' {α β : Type} {R : α → β → Prop} {l' : List β} (h : Zip R ([] : List α) l') : l' = [] := by
  cases l' with
  | nil => rfl
  | cons b l2 => have := h.1; simp at this
theorem RelC.mem_snd {j : Nat} {c : CH} {d : C16} (h : RelC q S j c d) {m : Nat} (hm : m ∈ d.snd) : ∃ k v, S.sts[m]? = some (.wS k j v) := by
  obtain ⟨e, _, k, v, _, _, _, _, _, _, h1, _⟩ := h.snd.mem hm
  exact ⟨k, v, h1⟩
theorem RelC.mem_rcv {j : Nat} {c : CH} {d : C16} (h : RelC q S j c d) {m : Nat} (hm : m ∈ d.rcv) : ∃ k, S.sts[m]? = some (.wR k j) := by
  obtain ⟨e, _, k, _, _, _, _, _, _, _, _, h1, _⟩ := h.rcv.mem hm
  exact ⟨k, h1⟩
theorem RelC.not_in {j : Nat} {c : CH} {d : C16} (h : RelC q S j c d) {m : Nat} {s : St κ} (hs : S.sts[m]? = some s) (hw : s.waits = false) : m ∉ d.snd ∧ m ∉ d.rcv := by
  constructor
  · intro hm
    obtain ⟨k, v, e⟩ := h.mem_snd hm
    rw [hs] at e; cases e; cases hw
  · intro hm
    obtain ⟨k, e⟩ := h.mem_rcv hm
    rw [hs] at e; cases e; cases hw
theorem PRel.line_lt (p : PRel L q nowi kb S) {z : Int} (hz : z ∈ S.line) : ∃ i : Nat, z = (i : Int) ∧ i < S.sts.length := by
  obtain ⟨i, rfl⟩ := Int.eq_ofNat_of_zero_le (p.nn z hz)
  obtain ⟨s, h, _⟩ := (p.rdy i).1 hz
  exact ⟨i, rfl, (List.getElem?_eq_some_iff.1 h).1⟩
theorem PRel.line_len (p : PRel L q nowi kb S) : S.line.length ≤ 200 := by
  have h1 := len_sub_q (l' := (List.range S.sts.length).map fun (n : Nat) => (n : Int)) p.nd (fun x hx => by
    obtain ⟨i, rfl, hi⟩ := p.line_lt hx
    exact List.mem_map.2 ⟨i, List.mem_range.2 hi, rfl⟩)
  simp only [List.length_map, List.length_range] at h1
  have := p.few
  omega
theorem PRel.ready (p : PRel L q nowi kb S) (m : Nat) : (readyL S.line m).Nodup ∧ (∀ z ∈ readyL S.line m, 0 ≤ z) ∧ (∀ i : Nat, (i : Int) ∈ readyL S.line m ↔ i = m ∨ (i : Int) ∈ S.line) := by
  have hl := p.line_len
  unfold readyL
  rw [if_neg (by omega)]
  by_cases h : (m : Int) ∈ S.line
  · rw [if_pos h]
    refine ⟨p.nd, p.nn, fun i => ⟨.inr, fun h' => ?_⟩⟩
    rcases h' with rfl | h'
    · exact h
    · exact h'
  · rw [if_neg h, if_neg (by omega)]
    refine ⟨?_, ?_, fun i => ?_⟩
    · rw [List.nodup_append]
      refine ⟨p.nd, by simp, fun a ha b hb => ?_⟩
      simp only [List.mem_singleton] at hb
      subst hb
      intro e
      exact h (e ▸ ha)
    · intro z hz
      simp only [List.mem_append, List.mem_singleton] at hz
      rcases hz with hz | rfl
      · exact p.nn z hz
      · omega
    · simp only [List.mem_append, List.mem_singleton]
      constructor
      · rintro (h1 | h1)
        · exact .inr h1
        · exact .inl (by omega)
      · rintro (h1 | h1)
        · exact .inr (by omega)
        · exact .inl h1
theorem set_get {α : Type} {l : List α} {m : Nat} {a : α} (b : α) (h : l[m]? = some a) : (l.set m b)[m]? = some b := by
  rw [List.getElem?_set, if_pos rfl, if_pos (List.getElem?_eq_some_iff.1 h).1]
theorem set_get_ne {α : Type} {l : List α} {m i : Nat} (b : α) (h : i ≠ m) : (l.set m b)[i]? = l[i]? := by
  rw [List.getElem?_set, if_neg (Ne.symm h)]
/-- one task changes -/
theorem PRel.upd (p : PRel L q nowi kb S) {m : Nat} {x : Nat × TK} {g : Gh} {s : St κ} (hx : q.ts[m]? = some x) (hg : q.ghs[m]? = some g) (hs : S.sts[m]? = some s) {x' : Nat × TK} {g' : Gh} {s' : St κ} {cs' : List CH} {tks' : List TKT} {ds' : List C16} {line' : List Int}
    (hb : x'.1 = x.1) (hkb : ∀ b ∈ kb, b ∈ kb') (hot : ∀ (i : Nat) x g s, i ≠ m → q.ts[i]? = some x → q.ghs[i]? = some g → S.sts[i]? = some s → RelT L kb q.tks x g s → RelT L kb tks' x g s)
    (hr : RelT L kb' tks' x' g' s') (hpk : x'.2.parked = s'.parked) (hov : x'.2.over = s'.isOver)
    (hn1 : ∀ i, i ≠ m → (nowi' = some i ↔ nowi = some i)) (hn3 : nowi' = some m → x'.2.said = !s'.isRun) (hn4 : s'.isRun = true → nowi' = some m) (hn5 : nowi' = some m → s'.isOver = false)
    (hlc : cs'.length = ds'.length) (hch : ∀ (j : Nat) c d, cs'[j]? = some c → ds'[j]? = some d → RelC ⟨q.ts.set m x', cs', tks', q.ghs.set m g'⟩ (⟨S.sts.set m s', S.tbs, ds', line'⟩ : PS κ) j c d)
    (hl1 : line'.Nodup) (hl2 : ∀ z ∈ line', 0 ≤ z) (hl3 : ∀ i : Nat, i ≠ m → ((i : Int) ∈ line' ↔ (i : Int) ∈ S.line)) (hl4 : (m : Int) ∈ line' ↔ s'.rdy = true)
    (htn : ∀ (i j : Nat) t u, tks'[i]? = some t → tks'[j]? = some u → t.b = u.b → i = j) (hdn : s'.waits = true → ∀ (i : Nat) h t n, i ≠ m → q.ghs[i]? = some h → S.sts[i]? = some t → t.waits = true → h.tkt = some n → g'.tkt ≠ some n) :
    PRel L ⟨q.ts.set m x', cs', tks', q.ghs.set m g'⟩ nowi' kb' (⟨S.sts.set m s', S.tbs, ds', line'⟩ : PS κ) where
  lt := by simp only [List.length_set]; exact p.lt
  lg := by simp only [List.length_set]; exact p.lg
  lc := hlc
  tbs := by
    show S.tbs = (q.ts.set m x').map (·.1)
    rw [p.tbs, List.map_set, hb]
    refine List.ext_getElem? (fun i => ?_)
    rw [List.getElem?_set]
    by_cases e : m = i
    · subst e
      rw [if_pos rfl, if_pos (by rw [List.length_map]; exact (List.getElem?_eq_some_iff.1 hx).1), List.getElem?_map, hx]
      rfl
    · rw [if_neg e]
  few := by simp only [List.length_set]; exact p.few
  tk := by
    intro i y h t hy hh ht
    by_cases e : i = m
    · subst e
      rw [set_get _ hx] at hy
      rw [set_get _ hg] at hh
      rw [set_get _ hs] at ht
      cases hy; cases hh; cases ht
      exact ⟨hr, hpk, hov⟩
    · rw [set_get_ne _ e] at hy hh ht
      obtain ⟨h1, h2⟩ := p.tk i y h t hy hh ht
      exact ⟨(hot i y h t e hy hh ht h1).mono hkb, h2⟩
  said := by
    intro i y t hi hy ht
    by_cases e : i = m
    · subst e
      rw [set_get _ hx] at hy
      rw [set_get _ hs] at ht
      cases hy; cases ht
      exact hn3 hi
    · rw [set_get_ne _ e] at hy ht
      exact p.said i y t ((hn1 i e).1 hi) hy ht
  run := by
    intro i t ht hr
    by_cases e : i = m
    · subst e
      rw [set_get _ hs] at ht
      cases ht
      exact hn4 hr
    · rw [set_get_ne _ e] at ht
      exact (hn1 i e).2 (p.run i t ht hr)
  nowok := by
    intro i hi
    simp only [List.length_set]
    by_cases e : i = m
    · subst e; exact (List.getElem?_eq_some_iff.1 hs).1
    · exact p.nowok i ((hn1 i e).1 hi)
  ch := hch
  nd := hl1
  nn := hl2
  rdy := by
    intro i
    by_cases e : i = m
    · subst e
      rw [hl4, set_get _ hs]
      simp
    · rw [hl3 i e, set_get_ne _ e]
      exact p.rdy i
  tn := htn
  dn := by
    intro i l h h' t t' n h1 h2 h3 h4 h5 h6 h7 h8
    by_cases e : i = m
    · subst e
      rw [set_get _ hg] at h1
      rw [set_get _ hs] at h3
      cases h1; cases h3
      by_cases e2 : l = i
      · exact e2.symm
      · rw [set_get_ne _ e2] at h2 h4
        exact absurd h7 (hdn h5 l h' t' n e2 h2 h4 h6 h8)
    · rw [set_get_ne _ e] at h1 h3
      by_cases e2 : l = m
      · subst e2
        rw [set_get _ hg] at h2
        rw [set_get _ hs] at h4
        cases h2; cases h4
        exact absurd h8 (hdn h6 i h t n e h1 h3 h5 h7)
      · rw [set_get_ne _ e2] at h2 h4
        exact p.dn i l h h' t t' n h1 h2 h3 h4 h5 h6 h7 h8
  nov := by
    intro i t hi ht
    by_cases e : i = m
    · subst e
      rw [set_get _ hs] at ht
      cases ht
      exact hn5 hi
    · rw [set_get_ne _ e] at ht
      exact p.nov i t ((hn1 i e).1 hi) ht
/-- the channels stay as they are -/
theorem PRel.keepC (p : PRel L q nowi kb S) {m : Nat} {s : St κ} (hs : S.sts[m]? = some s) (hw : s.waits = false) {x' : Nat × TK} {g' : Gh} {s' : St κ} {tks' : List TKT} {line' : List Int} (ht : TkKeep q.tks tks') :
    ∀ (j : Nat) c d, q.cs[j]? = some c → S.cs[j]? = some d → RelC ⟨q.ts.set m x', q.cs, tks', q.ghs.set m g'⟩ (⟨S.sts.set m s', S.tbs, S.cs, line'⟩ : PS κ) j c d := by
  intro j c d hc hd
  have r := p.ch j c d hc hd
  obtain ⟨h1, h2⟩ := r.not_in hs hw
  refine r.keep (fun i hi => ?_) ht
  have e : i ≠ m := fun e => by subst e; exact hi.elim h1 h2
  exact ⟨set_get_ne _ e, set_get_ne _ e⟩
theorem RelC.keep1 {j m : Nat} {c : CH} {d : C16} (r : RelC q S j c d) {x' : Nat × TK} {g' : Gh} {s' : St κ} {cs' : List CH} {ds' : List C16} {tks' : List TKT} {line' : List Int} (h1 : m ∉ d.snd) (h2 : m ∉ d.rcv) (ht : TkKeep q.tks tks') : RelC ⟨q.ts.set m x', cs', tks', q.ghs.set m g'⟩ (⟨S.sts.set m s', S.tbs, ds', line'⟩ : PS κ) j c d := by
  refine r.keep (fun i hi => ?_) ht
  have e : i ≠ m := fun e => by subst e; exact hi.elim h1 h2
  exact ⟨set_get_ne _ e, set_get_ne _ e⟩
theorem RelT.snoc {tks : List TKT} (t : TKT) {x : Nat × TK} {g : Gh} {s : St κ} (r : RelT L kb tks x g s) : RelT L kb (tks ++ [t]) x g s := by
  have hk : ∀ {n : Nat} {u : TKT}, tks[n]? = some u → (tks ++ [t])[n]? = some u := fun h => by rw [List.getElem?_append_left (List.getElem?_eq_some_iff.1 h).1]; exact h
  cases s with
  | wS k j v => obtain ⟨n, ok, r, a, b, c, d, u, h1, h2, h3, h4⟩ := r; exact ⟨n, ok, r, a, b, c, d, u, h1, hk h2, h3, h4⟩
  | wR k j => obtain ⟨n, v, ok, r, a, b, c, d, e, f, u, h1, h2, h3, h4⟩ := r; exact ⟨n, v, ok, r, a, b, c, d, e, f, u, h1, hk h2, h3, h4⟩
  | over => trivial
  | run => trivial
  | mS k a b => exact r
  | mR k a b c => exact r
  | rdyS k ok => exact r
  | rdyR k v ok => exact r
  | rdyY k => exact r
  | wX k => exact r
theorem isF_tn {ts : List TKT} (h : ∀ (i j : Nat) t u, ts[i]? = some t → ts[j]? = some u → t.b = u.b → i = j) {n : Nat} {t : TKT} (ht : ts[n]? = some t) : isF ts t.b = t.fired := by
  unfold isF
  cases hf : t.fired with
  | true => exact List.any_eq_true.2 ⟨t, List.mem_of_getElem? ht, by simp [hf]⟩
  | false =>
    refine List.any_eq_false.2 (fun u hu => ?_)
    by_cases e : u.b = t.b
    · obtain ⟨i, hi, rfl⟩ := List.getElem_of_mem hu
      have hi' := List.getElem?_eq_getElem hi
      have := h i n _ _ hi' ht e
      subst this
      rw [hi'] at ht
      cases ht
      simp [hf]
    · simp [e]
theorem tn_fired {ts : List TKT} (h : ∀ (i j : Nat) t u, ts[i]? = some t → ts[j]? = some u → t.b = u.b → i = j) {n : Nat} {t : TKT} (ht : ts[n]? = some t) : ∀ (i j : Nat) t' u, (ts.set n { t with fired := true })[i]? = some t' → (ts.set n { t with fired := true })[j]? = some u → t'.b = u.b → i = j := by
  have key : ∀ (i : Nat) t', (ts.set n { t with fired := true })[i]? = some t' → ∃ t'', ts[i]? = some t'' ∧ t''.b = t'.b := fun i t' hi => by
    by_cases e : i = n
    · subst e
      rw [set_get _ ht] at hi
      cases hi
      exact ⟨t, ht, rfl⟩
    · rw [set_get_ne _ e] at hi
      exact ⟨t', hi, rfl⟩
  intro i j a b ha hb e
  obtain ⟨a', h1, h2⟩ := key i a ha
  obtain ⟨b', h3, h4⟩ := key j b hb
  exact h i j a' b' h1 h3 (by rw [h2, h4, e])
theorem PRel.ent (p : PRel L q nowi kb S) {j : Nat} {c : CH} {d : C16} (hc : q.cs[j]? = some c) (hd : S.cs[j]? = some d) : c.cleaned q.tks = c ∧ (∀ x ∈ c.snd, ∃ t ∈ q.tks, x.k = t.b) ∧ (∀ x ∈ c.rcv, ∃ t ∈ q.tks, x.k = t.b) := by
  have r := p.ch j c d hc hd
  have h1 : ∀ x ∈ c.snd, ∃ (n : Nat) (t : TKT), q.tks[n]? = some t ∧ x.k = t.b ∧ t.fired = false := fun x hx => by
    obtain ⟨m, _, k, v, thb, tkb, tb, n, ok, t, h1, h2, h3, h4, h5, h6⟩ := r.snd.mem' hx
    have hm := (List.getElem?_eq_some_iff.1 h1).1
    obtain ⟨y, hy⟩ : ∃ y, q.ts[m]? = some y := ⟨_, List.getElem?_eq_getElem (by rw [p.lt]; exact hm)⟩
    obtain ⟨⟨n', ok', _, a, b, e, f, u, g1, g2, g3, g4⟩, _⟩ := p.tk m y _ _ hy h2 h1
    cases g1
    rw [h3] at g2
    cases g2
    exact ⟨n, t, h3, h4, g3⟩
  have h2 : ∀ x ∈ c.rcv, ∃ (n : Nat) (t : TKT), q.tks[n]? = some t ∧ x.k = t.b ∧ t.fired = false := fun x hx => by
    obtain ⟨m, _, k, thb, tkb, vx, tb, n, v, ok, t, h1, h2, h3, h4, h6⟩ := r.rcv.mem' hx
    have hm := (List.getElem?_eq_some_iff.1 h1).1
    obtain ⟨y, hy⟩ : ∃ y, q.ts[m]? = some y := ⟨_, List.getElem?_eq_getElem (by rw [p.lt]; exact hm)⟩
    obtain ⟨⟨n', v', ok', _, a, b, e, f, i, l, u, g1, g2, g3, g4⟩, _⟩ := p.tk m y _ _ hy h2 h1
    cases g1
    rw [h3] at g2
    cases g2
    exact ⟨n, t, h3, h4, g3⟩
  refine ⟨?_, fun x hx => ?_, fun x hx => ?_⟩
  · unfold CH.cleaned
    rw [List.filter_eq_self.2 (fun x hx => ?_), List.filter_eq_self.2 (fun x hx => ?_)]
    · obtain ⟨n, t, e1, e2, e3⟩ := h2 x hx
      rw [e2, isF_tn p.tn e1, e3]; rfl
    · obtain ⟨n, t, e1, e2, e3⟩ := h1 x hx
      rw [e2, isF_tn p.tn e1, e3]; rfl
  · obtain ⟨n, t, e1, e2, e3⟩ := h1 x hx
    exact ⟨t, List.mem_of_getElem? e1, e2⟩
  · obtain ⟨n, t, e1, e2, e3⟩ := h2 x hx
    exact ⟨t, List.mem_of_getElem? e1, e2⟩
theorem RelT.fired {tks : List TKT} {n : Nat} (t : TKT) {x : Nat × TK} {g : Gh} {s : St κ} (hne : s.waits = true → g.tkt ≠ some n) (r : RelT L kb tks x g s) : RelT L kb (tks.set n t) x g s := by
  cases s with
  | wS k j v =>
    obtain ⟨n', ok, r, a, b, c, d, u, h1, h2, h3, h4⟩ := r
    have e : n' ≠ n := fun e => by subst e; exact hne rfl (by rw [h1]; rfl)
    exact ⟨n', ok, r, a, b, c, d, u, h1, by rw [set_get_ne _ e]; exact h2, h3, h4⟩
  | wR k j =>
    obtain ⟨n', v, ok, r, a, b, c, d, e, f, u, h1, h2, h3, h4⟩ := r
    have e' : n' ≠ n := fun e => by subst e; exact hne rfl (by rw [h1]; rfl)
    exact ⟨n', v, ok, r, a, b, c, d, e, f, u, h1, by rw [set_get_ne _ e']; exact h2, h3, h4⟩
  | over => trivial
  | run => trivial
  | mS k a b => exact r
  | mR k a b c => exact r
  | rdyS k ok => exact r
  | rdyR k v ok => exact r
  | rdyY k => exact r
  | wX k => exact r
end
end Go.Proofs.YtbaidcnalkdhgaaGreat
set_option maxRecDepth 100000
namespace Go.Proofs.YtbaidcnalkdhgaaGreat
open Go Go.Eng
theorem ent_pu {α : Type} {p : α → Prop} {A : α → Asr} {h : Array Obj} {F : Nat → Prop} (x : α) (hp : p x) (hA : A x h F) : (Ex fun x => Pu (p x) * A x) h F := ⟨x, by
  have e : Pu (p x) * A x = A x := by rw [pu_true hp, emp_star]
  show (Pu (p x) * A x) h F
  rw [e]; exact hA⟩
theorem ent_pu' {α : Type} {p : α → Prop} {A : α → Asr} {h : Array Obj} {F : Nat → Prop} (hx : (Ex fun x => Pu (p x) * A x) h F) : ∃ x, p x ∧ A x h F := by
  obtain ⟨x, F1, F2, ⟨hp, rfl⟩, a, _, e⟩ := hx
  have : F = F2 := by rw [e]; exact funext fun k => propext ⟨fun h => h.elim (fun h => h.elim) id, .inr⟩
  rw [this]
  exact ⟨x, hp, a⟩
theorem ent_ex' {α : Type} {f : α → Asr} {B : Asr} {h : Array Obj} {F : Nat → Prop} (hx : (Ex f * B) h F) : ∃ x, (f x * B) h F := by
  rw [ex_star] at hx
  exact hx
theorem ent_eq {A B : Asr} (e : A = B) {h : Array Obj} {F : Nat → Prop} (hx : A h F) : B h F := e ▸ hx
section
variable {κ : Type} {L : LawP κ} {q : Q16} {nowi : Option Nat} {kb : List Bx} {S : PS κ} {rb : Nat} {rest : Int} {w0 w : World} {F0 : Nat → Prop} {R : Asr}
/-- all else than channel j and the tickets -/
def Ot (rb : Nat) (nowi : Option Nat) (rest : Int) (kb : List Bx) (S : PS κ) (q : Q16) (j : Nat) (R : Asr) : Asr := Big ((q.cs.eraseIdx j).map (ChA_i rb)) * (RtA rb (nowB S nowi) rest S.line q.ts * (Bxl kb * (GhsA q.ghs * R)))
instance instLclOt (rb : Nat) (nowi : Option Nat) (rest : Int) (kb : List Bx) (S : PS κ) (q : Q16) (j : Nat) (R : Asr) [Lcl R] : Lcl (Ot rb nowi rest kb S q j R) := by unfold Ot; infer_instance
theorem po_eq {j : Nat} {c : CH} (hc : q.cs[j]? = some c) : RtA rb (nowB S nowi) rest S.line q.ts * (Big (q.cs.map (ChA_i rb)) * (TksA q.tks * (Bxl kb * (GhsA q.ghs * R)))) = ChA_i rb c * (TksA q.tks * Ot rb nowi rest kb S q j R) := by
  rw [big_map_pick _ hc]; unfold Ot; ac_rfl
theorem pw_ent {j : Nat} {c : CH} (hp : PRel L q nowi kb S) (hc : q.cs[j]? = some c) : ∀ h F, (ChA_i rb c * (TksA q.tks * Ot rb nowi rest kb S q j R)) h F → (PWA L rb nowi rest kb S * R) h F := by
  intro h F hA
  rw [← po_eq hc] at hA
  unfold PWA
  rw [ex_star]
  refine ⟨q, ?_⟩
  have e : Pu (PRel L q nowi kb S) * (RtA rb (nowB S nowi) rest S.line q.ts * (Big (q.cs.map (ChA_i rb)) * (TksA q.tks * (Bxl kb * GhsA q.ghs)))) * R = RtA rb (nowB S nowi) rest S.line q.ts * (Big (q.cs.map (ChA_i rb)) * (TksA q.tks * (Bxl kb * (GhsA q.ghs * R)))) := by
    rw [pu_true hp, emp_star]; ac_rfl
  exact ent_eq e.symm hA
/-- the plain world, with more boxes perhaps -/
def Bp (L : LawP κ) (rb : Nat) (nowi : Option Nat) (rest : Int) (kb : List Bx) (S : PS κ) (R : Asr) : Asr := Ex fun kb' : List Bx => Pu (∀ b ∈ kb, b ∈ kb') * (PWA L rb nowi rest kb' S * R)
theorem bp_ent {j : Nat} {c : CH} {kb' : List Bx} (hkb : ∀ b ∈ kb, b ∈ kb') (hp : PRel L q nowi kb' S) (hc : q.cs[j]? = some c) : ∀ h F, (ChA_i rb c * (TksA q.tks * Ot rb nowi rest kb' S q j R)) h F → Bp L rb nowi rest kb S R h F := by
  intro h F hA
  exact ent_pu kb' hkb (pw_ent hp hc h F hA)
theorem _root_.Go.Eng.At.bp (S1 : At (Bp L rb nowi rest kb S R) w0 F0 w) : ∃ kb', (∀ b ∈ kb, b ∈ kb') ∧ At (PWA L rb nowi rest kb' S * R) w0 F0 w := by
  obtain ⟨kb', S1⟩ := (show At (Ex fun kb' : List Bx => Pu (∀ b ∈ kb, b ∈ kb') * (PWA L rb nowi rest kb' S * R)) w0 F0 w from S1).ex1
  obtain ⟨h, S1⟩ := S1.pure
  exact ⟨kb', h, S1⟩
theorem PRel.xs (hp : PRel L q nowi kb S) {m : Nat} {s : St κ} (h : S.sts[m]? = some s) : ∃ x g, q.ts[m]? = some x ∧ q.ghs[m]? = some g := by
  have hm := (List.getElem?_eq_some_iff.1 h).1
  exact ⟨_, _, List.getElem?_eq_getElem (by rw [hp.lt]; exact hm), List.getElem?_eq_getElem (by rw [hp.lg]; exact hm)⟩
/-- the plain relation when a waiting sender is told and woken -/
theorem prel_wokeS (hp : PRel L q nowi kb S) {j : Nat} {c : CH} {d : C16} (hc : q.cs[j]? = some c) (hd : S.cs[j]? = some d) {m : Nat} {k : κ} {v : Int} {thb tkb tb n : Nat} {ok0 : Bool} {t : TKT} {y : Nat × TK} (h1 : S.sts[m]? = some (.wS k j v)) (h2 : q.ghs[m]? = some (.s thb tkb tb n ok0)) (h3 : q.tks[n]? = some t) (hy : q.ts[m]? = some y) (ok : Bool) {c' : CH} {d' : C16} (hrel : RelC q S j c' d') (hm : m ∉ d'.snd) (fb yb : Nat) :
    PRel L ⟨q.ts.set m (woken y fb yb), q.cs.set j c', q.tks.set n { t with fired := true }, q.ghs.set m (.s thb tkb tb n ok)⟩ nowi (wokenK y fb yb kb) (⟨S.sts.set m (.rdyS k ok), S.tbs, S.cs.set j d', readyL S.line m⟩ : PS κ) := by
  obtain ⟨⟨n', ok', hmid, a, b, e, f, u, g1, g2, g3, g4⟩, hpk, hov⟩ := hp.tk m y _ _ hy h2 h1
  cases g1
  obtain ⟨thb', tkb', tb', ff, e1, e2, e3, e4, e5⟩ := hmid
  cases e1
  obtain ⟨r1, r2, r3⟩ := hp.ready m
  have hkb : ∀ b ∈ kb, b ∈ wokenK y fb yb kb := fun b hb => List.mem_cons_of_mem _ (List.mem_cons_of_mem _ hb)
  refine hp.upd hy h2 h1 rfl hkb (fun i x g s hi hx hg hs r => ?_) ?_ rfl (by rw [show (woken y fb yb).2.over = y.2.over from rfl, hov]; rfl) (fun i _ => Iff.rfl) (fun h => ?_) (fun h => by cases h) (fun _ => rfl) ?_ ?_ r1 r2 (fun i hi => ?_) ?_ (tn_fired hp.tn h3) (fun h => by cases h)
  · refine r.fired _ (fun hw he => hi ?_)
    exact hp.dn i m g _ s _ n hg h2 hs h1 hw rfl he rfl
  · exact ⟨n, y.2.wake.1, ⟨thb, tkb, tb, ff, rfl, e2, hkb _ e3, L.mth hkb e4, hkb _ e5⟩, fb, yb, rfl, List.mem_cons_self, List.mem_cons_of_mem _ List.mem_cons_self⟩
  · have := hp.said m y _ h hy h1
    exact this
  · simp only [List.length_set]; exact hp.lc
  · intro i ci di hci hdi
    by_cases e : i = j
    · subst e
      rw [set_get _ hc] at hci
      rw [set_get _ hd] at hdi
      cases hci; cases hdi
      exact hrel.keep1 hm (fun h => by obtain ⟨k', e⟩ := hrel.mem_rcv h; rw [h1] at e; cases e) (TkKeep.fired h3)
    · rw [set_get_ne _ e] at hci hdi
      have r := hp.ch i ci di hci hdi
      exact r.keep1 (fun h => by obtain ⟨k', v', e'⟩ := r.mem_snd h; rw [h1] at e'; cases e'; exact e rfl) (fun h => by obtain ⟨k', e⟩ := r.mem_rcv h; rw [h1] at e; cases e) (TkKeep.fired h3)
  · rw [r3 i]
    exact ⟨fun h => h.elim (fun h => absurd h hi) id, .inr⟩
  · exact ⟨fun _ => rfl, fun _ => (r3 m).2 (.inl rfl)⟩
theorem prel_wokeR (hp : PRel L q nowi kb S) {j : Nat} {c : CH} {d : C16} (hc : q.cs[j]? = some c) (hd : S.cs[j]? = some d) {m : Nat} {k : κ} {thb tkb vx tb n : Nat} {v0 : Int} {ok0 : Bool} {t : TKT} {y : Nat × TK} (h1 : S.sts[m]? = some (.wR k j)) (h2 : q.ghs[m]? = some (.r thb tkb vx tb n v0 ok0)) (h3 : q.tks[n]? = some t) (hy : q.ts[m]? = some y) (v : Int) (ok : Bool) {c' : CH} {d' : C16} (hrel : RelC q S j c' d') (hm : m ∉ d'.rcv) (fb yb : Nat) :
    PRel L ⟨q.ts.set m (woken y fb yb), q.cs.set j c', q.tks.set n { t with fired := true }, q.ghs.set m (.r thb tkb vx tb n v ok)⟩ nowi (wokenK y fb yb kb) (⟨S.sts.set m (.rdyR k v ok), S.tbs, S.cs.set j d', readyL S.line m⟩ : PS κ) := by
  obtain ⟨⟨n', v', ok', hmid, a, b, e, f, e0, e9, u, g1, g2, g3, g4⟩, hpk, hov⟩ := hp.tk m y _ _ hy h2 h1
  cases g1
  obtain ⟨thb', tkb', vx', tb', ff, e1, e2, e3, e4, e5⟩ := hmid
  cases e1
  obtain ⟨r1, r2, r3⟩ := hp.ready m
  have hkb : ∀ b ∈ kb, b ∈ wokenK y fb yb kb := fun b hb => List.mem_cons_of_mem _ (List.mem_cons_of_mem _ hb)
  refine hp.upd hy h2 h1 rfl hkb (fun i x g s hi hx hg hs r => ?_) ?_ rfl (by rw [show (woken y fb yb).2.over = y.2.over from rfl, hov]; rfl) (fun i _ => Iff.rfl) (fun h => ?_) (fun h => by cases h) (fun _ => rfl) ?_ ?_ r1 r2 (fun i hi => ?_) ?_ (tn_fired hp.tn h3) (fun h => by cases h)
  · refine r.fired _ (fun hw he => hi ?_)
    exact hp.dn i m g _ s _ n hg h2 hs h1 hw rfl he rfl
  · exact ⟨n, y.2.wake.1, ⟨thb, tkb, vx, tb, ff, rfl, e2, hkb _ e3, L.mtr hkb e4, hkb _ e5⟩, fb, yb, rfl, List.mem_cons_self, List.mem_cons_of_mem _ List.mem_cons_self⟩
  · have := hp.said m y _ h hy h1
    exact this
  · simp only [List.length_set]; exact hp.lc
  · intro i ci di hci hdi
    by_cases e : i = j
    · subst e
      rw [set_get _ hc] at hci
      rw [set_get _ hd] at hdi
      cases hci; cases hdi
      exact hrel.keep1 (fun h => by obtain ⟨k', v', e⟩ := hrel.mem_snd h; rw [h1] at e; cases e) hm (TkKeep.fired h3)
    · rw [set_get_ne _ e] at hci hdi
      have r := hp.ch i ci di hci hdi
      exact r.keep1 (fun h => by obtain ⟨k', v', e'⟩ := r.mem_snd h; rw [h1] at e'; cases e') (fun h => by obtain ⟨k', e'⟩ := r.mem_rcv h; rw [h1] at e'; cases e'; exact e rfl) (TkKeep.fired h3)
  · rw [r3 i]
    exact ⟨fun h => h.elim (fun h => absurd h hi) id, .inr⟩
  · exact ⟨fun _ => rfl, fun _ => (r3 m).2 (.inl rfl)⟩
/-- what behind a wake is known -/
def Aft (L : LawP κ) (rb : Nat) (nowi : Option Nat) (rest : Int) (kb : List Bx) (q : Q16) (j : Nat) (c' : CH) (S' : PS κ) (R : Asr) : Asr :=
  Ex fun s : Q16 × List Bx => Pu ((∀ b ∈ kb, b ∈ s.2) ∧ PRel L s.1 nowi s.2 S' ∧ s.1.cs[j]? = some c') * (ChA_i rb c' * (TksA s.1.tks * Ot rb nowi rest s.2 S' s.1 j R))
theorem wake_snd [Lcl R] (w : World) (hp : PRel L q nowi kb S) {j : Nat} {c : CH} {d : C16} (hc : q.cs[j]? = some c) (hd : S.cs[j]? = some d) {x : SE} {m : Nat} (he : EntS q S j x m) (ok : Bool) {c' : CH} {d' : C16} (hrel : RelC q S j c' d') (hm : m ∉ d'.snd) :
    ∃ (k : κ) (n : Nat) (t : TKT) (g g2 : FuncId) (cap cap2 : List Value) (Mid : Asr), S.sts[m]? = some (.wS k j x.v) ∧ q.tks[n]? = some t ∧ x.k = t.b ∧ Nonempty (FnOk Tryz.prog g) ∧ Nonempty (FnOk Tryz.prog g2) ∧ x.f.1 = .func (.func g) #[] cap.toArray ∧ t.fire.1 = .func (.func g2) #[] cap2.toArray ∧
      Sp Tryz.prog g (.bool ok :: cap).toArray (ChA_i rb c' * (TksA (q.tks.set n { t with fired := true }) * Ot rb nowi rest kb S q j R)) (fun _ => Mid) ∧ (∀ h F, Mid h F → Blk h t.b [t.fire.1, .bool true] 175) ∧
      Sp Tryz.prog g2 cap2.toArray Mid (fun _ => Aft L rb nowi rest kb q j c' (⟨S.sts.set m (.rdyS k ok), S.tbs, S.cs.set j d', readyL S.line m⟩ : PS κ) R) := by
  obtain ⟨k, v, thb, tkb, tb, n, ok0, t, h1, h2, h3, h4, h5, h6⟩ := he
  obtain ⟨y, _, hy, _⟩ := hp.xs h1
  have hrt := hp.tk m y _ _ hy h2 h1
  obtain ⟨⟨n', ok', hmid, a, b, e, f, u, g1, g2, g3, g4⟩, hpk, hov⟩ := hrt
  cases g1
  rw [h3] at g2
  cases g2
  obtain ⟨thb', tkb', tb', ff, e1, e2, e3, e4, e5⟩ := hmid
  cases e1
  have hl := hp.line_len
  have hj := (List.getElem?_eq_some_iff.1 hc).1
  have hmg := (List.getElem?_eq_some_iff.1 h2).1
  refine ⟨k, n, t, _, _, [pt tb], [pt tkb], ChA_i rb c' * (TksA (q.tks.set n { t with fired := true }) * (Big ((q.cs.eraseIdx j).map (ChA_i rb)) * (RtA rb (nowB S nowi) rest S.line q.ts * (Bxl kb * (GhsA (q.ghs.set m (.s thb tkb tb n ok)) * R))))), by rw [h5]; exact h1, h3, h4, ⟨inferInstance⟩, ⟨inferInstance⟩, h6, g4, ?_, ?_, ?_⟩
  · refine ((send3 tb ok0 ok).frame (R := ChA_i rb c' * (TksA (q.tks.set n { t with fired := true }) * (Big ((q.cs.eraseIdx j).map (ChA_i rb)) * (RtA rb (nowB S nowi) rest S.line q.ts * (Bxl kb * (GhsA (q.ghs.eraseIdx m) * R))))))).cong ?_ (fun _ x F hB => ?_)
    · unfold Ot; rw [ghs_pick h2]; unfold GhA; ac_rfl
    · rw [ghs_put _ hmg]; unfold GhA
      exact ent_eq (by ac_rfl) hB
  · intro h F hM
    have S2 : At _ ({ w with heap := h } : World) F ({ w with heap := h } : World) := At.init hM
    have := (S2.ac (show _ = TksA (q.tks.set n { t with fired := true }) * (ChA_i rb c' * (Big ((q.cs.eraseIdx j).map (ChA_i rb)) * (RtA rb (nowB S nowi) rest S.line q.ts * (Bxl kb * (GhsA (q.ghs.set m (.s thb tkb tb n ok)) * R))))) by ac_rfl)).tk (List.mem_of_getElem? (set_get { t with fired := true } h3))
    exact this
  · refine ((fire_s (now := nowB S nowi) (rest := rest) (rb := rb) (ready := S.line) (ts := q.ts) tkb kb e5 hy (by omega) (by rw [hpk]; rfl)).frame (R := ChA_i rb c' * (TksA (q.tks.set n { t with fired := true }) * (Big ((q.cs.eraseIdx j).map (ChA_i rb)) * (GhsA (q.ghs.set m (.s thb tkb tb n ok)) * R))))).cong (by ac_rfl) (fun _ x F hB => ?_)
    obtain ⟨fb, hB⟩ := ent_ex' hB
    obtain ⟨yb, hB⟩ := ent_ex' hB
    have P := prel_wokeS hp hc hd h1 h2 h3 hy ok hrel hm fb yb
    refine ent_pu (_, _) ⟨fun b hb => List.mem_cons_of_mem _ (List.mem_cons_of_mem _ hb), P, set_get _ hc⟩ (ent_eq ?_ hB)
    unfold Ot
    rw [show (q.cs.set j c').eraseIdx j = q.cs.eraseIdx j from List.eraseIdx_set_eq]
    show _ = ChA_i rb c' * (TksA (q.tks.set n { t with fired := true }) * (Big ((q.cs.eraseIdx j).map (ChA_i rb)) * (RtA rb (nowB S nowi) rest (readyL S.line m) (q.ts.set m (woken y fb yb)) * (Bxl (wokenK y fb yb kb) * (GhsA (q.ghs.set m (.s thb tkb tb n ok)) * R)))))
    ac_rfl
theorem ghA_r (thb tkb vx tb n : Nat) (v : Int) (ok : Bool) : GhA (.r thb tkb vx tb n v ok) = Pt vx [.int .i64 v] 3 * Pt tb [.bool ok] 4 := rfl
theorem ghA_s (thb tkb tb n : Nat) (ok : Bool) : GhA (.s thb tkb tb n ok) = Pt tb [.bool ok] 4 := rfl
theorem wake_rcv [Lcl R] (w : World) (hp : PRel L q nowi kb S) {j : Nat} {c : CH} {d : C16} (hc : q.cs[j]? = some c) (hd : S.cs[j]? = some d) {x : RE} {m : Nat} (he : EntR q S j x m) (v : Int) (ok : Bool) {c' : CH} {d' : C16} (hrel : RelC q S j c' d') (hm : m ∉ d'.rcv) :
    ∃ (k : κ) (n : Nat) (t : TKT) (g g2 : FuncId) (cap cap2 : List Value) (Mid : Asr), S.sts[m]? = some (.wR k j) ∧ q.tks[n]? = some t ∧ x.k = t.b ∧ Nonempty (FnOk Tryz.prog g) ∧ Nonempty (FnOk Tryz.prog g2) ∧ x.f.1 = .func (.func g) #[] cap.toArray ∧ t.fire.1 = .func (.func g2) #[] cap2.toArray ∧
      Sp Tryz.prog g (.int .i64 v :: .bool ok :: cap).toArray (ChA_i rb c' * (TksA (q.tks.set n { t with fired := true }) * Ot rb nowi rest kb S q j R)) (fun _ => Mid) ∧ (∀ h F, Mid h F → Blk h t.b [t.fire.1, .bool true] 175) ∧
      Sp Tryz.prog g2 cap2.toArray Mid (fun _ => Aft L rb nowi rest kb q j c' (⟨S.sts.set m (.rdyR k v ok), S.tbs, S.cs.set j d', readyL S.line m⟩ : PS κ) R) := by
  obtain ⟨k, thb, tkb, vx, tb, n, v0, ok0, t, h1, h2, h3, h4, h6⟩ := he
  obtain ⟨y, _, hy, _⟩ := hp.xs h1
  have hrt := hp.tk m y _ _ hy h2 h1
  obtain ⟨⟨n', v', ok', hmid, a, b, e, f, e0, e9, u, g1, g2, g3, g4⟩, hpk, hov⟩ := hrt
  cases g1
  rw [h3] at g2
  cases g2
  obtain ⟨thb', tkb', vx', tb', ff, e1, e2, e3, e4, e5⟩ := hmid
  cases e1
  have hl := hp.line_len
  have hj := (List.getElem?_eq_some_iff.1 hc).1
  have hmg := (List.getElem?_eq_some_iff.1 h2).1
  refine ⟨k, n, t, _, _, [pt vx, pt tb], [pt tkb], ChA_i rb c' * (TksA (q.tks.set n { t with fired := true }) * (Big ((q.cs.eraseIdx j).map (ChA_i rb)) * (RtA rb (nowB S nowi) rest S.line q.ts * (Bxl kb * (GhsA (q.ghs.set m (.r thb tkb vx tb n v ok)) * R))))), h1, h3, h4, ⟨inferInstance⟩, ⟨inferInstance⟩, h6, g4, ?_, ?_, ?_⟩
  · refine ((recv3 vx tb v0 v ok0 ok).frame (R := ChA_i rb c' * (TksA (q.tks.set n { t with fired := true }) * (Big ((q.cs.eraseIdx j).map (ChA_i rb)) * (RtA rb (nowB S nowi) rest S.line q.ts * (Bxl kb * (GhsA (q.ghs.eraseIdx m) * R))))))).cong ?_ (fun _ x F hB => ?_)
    · unfold Ot; rw [ghs_pick h2, ghA_r]; ac_rfl
    · rw [ghs_put _ hmg, ghA_r]
      exact ent_eq (by ac_rfl) hB
  · intro h F hM
    have S2 : At _ ({ w with heap := h } : World) F ({ w with heap := h } : World) := At.init hM
    have := (S2.ac (show _ = TksA (q.tks.set n { t with fired := true }) * (ChA_i rb c' * (Big ((q.cs.eraseIdx j).map (ChA_i rb)) * (RtA rb (nowB S nowi) rest S.line q.ts * (Bxl kb * (GhsA (q.ghs.set m (.r thb tkb vx tb n v ok)) * R))))) by ac_rfl)).tk (List.mem_of_getElem? (set_get { t with fired := true } h3))
    exact this
  · refine ((fire_r (now := nowB S nowi) (rest := rest) (rb := rb) (ready := S.line) (ts := q.ts) tkb kb e5 hy (by omega) (by rw [hpk]; rfl)).frame (R := ChA_i rb c' * (TksA (q.tks.set n { t with fired := true }) * (Big ((q.cs.eraseIdx j).map (ChA_i rb)) * (GhsA (q.ghs.set m (.r thb tkb vx tb n v ok)) * R))))).cong (by ac_rfl) (fun _ x F hB => ?_)
    obtain ⟨fb, hB⟩ := ent_ex' hB
    obtain ⟨yb, hB⟩ := ent_ex' hB
    have P := prel_wokeR hp hc hd h1 h2 h3 hy v ok hrel hm fb yb
    refine ent_pu (_, _) ⟨fun b hb => List.mem_cons_of_mem _ (List.mem_cons_of_mem _ hb), P, set_get _ hc⟩ (ent_eq ?_ hB)
    unfold Ot
    rw [show (q.cs.set j c').eraseIdx j = q.cs.eraseIdx j from List.eraseIdx_set_eq]
    show _ = ChA_i rb c' * (TksA (q.tks.set n { t with fired := true }) * (Big ((q.cs.eraseIdx j).map (ChA_i rb)) * (RtA rb (nowB S nowi) rest (readyL S.line m) (q.ts.set m (woken y fb yb)) * (Bxl (wokenK y fb yb kb) * (GhsA (q.ghs.set m (.r thb tkb vx tb n v ok)) * R)))))
    ac_rfl
end
end Go.Proofs.YtbaidcnalkdhgaaGreat
set_option maxRecDepth 100000
namespace Go.Proofs.YtbaidcnalkdhgaaGreat
open Go Go.Eng
section
variable {κ : Type}
def PS.setC (S : PS κ) (j : Nat) (d : C16) : PS κ := ⟨S.sts, S.tbs, S.cs.set j d, S.line⟩
/-- a task that sends is told and is ready -/
def PS.wokeS (S : PS κ) (m : Nat) (ok : Bool) : PS κ := match S.sts[m]? with
  | some (.wS k _ _) => ⟨S.sts.set m (.rdyS k ok), S.tbs, S.cs, readyL S.line m⟩
  | _ => S
def PS.wokeR (S : PS κ) (m : Nat) (v : Int) (ok : Bool) : PS κ := match S.sts[m]? with
  | some (.wR k _) => ⟨S.sts.set m (.rdyR k v ok), S.tbs, S.cs, readyL S.line m⟩
  | _ => S
def PS.valS (S : PS κ) (m : Nat) : Int := match S.sts[m]? with
  | some (.wS _ _ v) => v
  | _ => 0
def PS.trySend (S : PS κ) (j : Nat) (v : Int) : PS κ × Bool × Bool := match S.cs[j]? with
  | none => (S, false, false)
  | some d => if d.closed then (S, false, true) else match d.rcv with
    | m :: r => ((S.setC j { d with rcv := r }).wokeR m v true, true, true)
    | [] => if (d.buf.length : Int) = d.size then (S, false, false) else (S.setC j { d with buf := d.buf ++ [v] }, true, true)
def PS.tryRecv (S : PS κ) (j : Nat) : PS κ × Int × Bool × Bool := match S.cs[j]? with
  | none => (S, 0, false, false)
  | some d => match d.snd with
    | m :: r => ((S.setC j { d with buf := rbuf d.buf (S.valS m), snd := r }).wokeS m true, rval d.buf (S.valS m), true, true)
    | [] => (S.setC j { d with buf := d.buf.tail }, d.buf.headD 0, !d.buf.isEmpty, !d.buf.isEmpty || d.closed)
variable {L : LawP κ} {q : Q16} {nowi : Option Nat} {kb : List Bx} {S : PS κ} {rb : Nat} {rest : Int} {w0 w : World} {F0 : Nat → Prop} {R : Asr}
theorem wokeS_w {m j j' : Nat} {k : κ} {v : Int} {ok : Bool} {d : C16} (h : S.sts[m]? = some (.wS k j' v)) : (S.setC j d).wokeS m ok = ⟨S.sts.set m (.rdyS k ok), S.tbs, S.cs.set j d, readyL S.line m⟩ := by
  unfold PS.wokeS PS.setC; simp only [h]
theorem wokeR_w {m j j' : Nat} {k : κ} {v : Int} {ok : Bool} {d : C16} (h : S.sts[m]? = some (.wR k j')) : (S.setC j d).wokeR m v ok = ⟨S.sts.set m (.rdyR k v ok), S.tbs, S.cs.set j d, readyL S.line m⟩ := by
  unfold PS.wokeR PS.setC; simp only [h]
/-- a channel alone changes -/
theorem PRel.chan (hp : PRel L q nowi kb S) {j : Nat} {c : CH} {d : C16} (hc : q.cs[j]? = some c) (hd : S.cs[j]? = some d) {c' : CH} {d' : C16} (hrel : RelC q S j c' d') : PRel L { q with cs := q.cs.set j c' } nowi kb (S.setC j d') :=
  { hp with
    lc := by simp only [PS.setC, List.length_set]; exact hp.lc
    ch := fun i ci di hci hdi => by
      have keep : ∀ {ci di}, RelC q S i ci di → RelC { q with cs := q.cs.set j c' } (S.setC j d') i ci di := fun r => r.keep (fun m _ => ⟨rfl, rfl⟩) (TkKeep.refl _)
      by_cases e : i = j
      · subst e
        have hci : (q.cs.set i c')[i]? = some ci := hci
        have hdi : (S.cs.set i d')[i]? = some di := hdi
        rw [set_get _ hc] at hci
        rw [set_get _ hd] at hdi
        cases hci; cases hdi
        exact keep hrel
      · have hci : (q.cs.set j c')[i]? = some ci := hci
        have hdi : (S.cs.set j d')[i]? = some di := hdi
        rw [set_get_ne _ e] at hci hdi
        exact keep (hp.ch i ci di hci hdi) }
theorem bp_chan (hp : PRel L q nowi kb S) {j : Nat} {c : CH} {d : C16} (hc : q.cs[j]? = some c) (hd : S.cs[j]? = some d) {c' : CH} {d' : C16} (hrel : RelC q S j c' d') : ∀ h F, (ChA_i rb c' * (TksA q.tks * Ot rb nowi rest kb S q j R)) h F → Bp L rb nowi rest kb (S.setC j d') R h F := by
  intro h F hA
  refine bp_ent (c := c') (fun b hb => hb) (hp.chan hc hd hrel) (set_get _ hc) h F (ent_eq ?_ hA)
  unfold Ot
  rw [show ({ q with cs := q.cs.set j c' } : Q16).cs.eraseIdx j = q.cs.eraseIdx j from List.eraseIdx_set_eq]
  rfl
theorem bp_aft {j : Nat} {c' : CH} {S' : PS κ} : ∀ h F, Aft L rb nowi rest kb q j c' S' R h F → Bp L rb nowi rest kb S' R h F := by
  intro h F hA
  obtain ⟨s, ⟨h1, h2, h3⟩, hA⟩ := ent_pu' hA
  exact bp_ent h1 h2 h3 h F hA
theorem ent_pu1 {p : Prop} {A : Asr} {h : Array Obj} {F : Nat → Prop} (hp : p) (hA : A h F) : (Pu p * A) h F := by rw [pu_true hp, emp_star]; exact hA
theorem PRel.cget (hp : PRel L q nowi kb S) {j : Nat} {d : C16} (hd : S.cs[j]? = some d) : ∃ c, q.cs[j]? = some c := ⟨_, List.getElem?_eq_getElem (by rw [hp.lc]; exact (List.getElem?_eq_some_iff.1 hd).1)⟩
theorem pw_trysend [Lcl R] (S1 : At (PWA L rb nowi rest kb S * R) w0 F0 w) {j : Nat} {d : C16} (hd : S.cs[j]? = some d) (v : Int) :
    Rets Tryz.prog 33 #[pt d.cb, .int .i64 v] w fun u w' => u = .tuple #[.bool (S.trySend j v).2.1, .bool (S.trySend j v).2.2] ∧ ∃ kb', (∀ b ∈ kb, b ∈ kb') ∧ At (PWA L rb nowi rest kb' (S.trySend j v).1 * R) w0 F0 w' := by
  obtain ⟨q, hp, S2⟩ := pw_open S1
  obtain ⟨c, hc⟩ := hp.cget hd
  have r := hp.ch j c d hc hd
  obtain ⟨hcl, m1, m2⟩ := hp.ent hc hd
  have S3 := (S2.ac (po_eq hc)).ac (star_emp _).symm
  have hroom := r.room
  have ebuf := r.buf
  have sp := ch_trysend_i (rb := rb) (c := c) (ts := q.tks) (R := Ot rb nowi rest kb S q j R) (B := fun u => Pu (u = .tuple #[.bool (S.trySend j v).2.1, .bool (S.trySend j v).2.2]) * Bp L rb nowi rest kb (S.trySend j v).1 R) v m1 m2 (by rw [ebuf]; omega)
    (fun h1 x F hA => by
      have e : S.trySend j v = (S, false, true) := by unfold PS.trySend; simp only [hd]; rw [if_pos (by rw [← r.closed]; exact h1)]
      rw [e]
      rw [hcl] at hA
      exact ent_pu1 rfl (bp_ent (fun b hb => hb) hp hc x F hA))
    (fun h1 x rr h2 => by
      rw [hcl] at h2 ⊢
      have hz := r.rcv
      rw [h2] at hz
      obtain ⟨m, r2, e2⟩ := hz.cons'
      rw [e2] at hz
      obtain ⟨he, hz2⟩ := hz.tail
      have hnd := r.ndr
      rw [e2] at hnd
      obtain ⟨n1, n2⟩ := List.nodup_cons.1 hnd
      obtain ⟨k, n, t, g, g2, cap, cap2, Mid, q1, q2, q3, q4, q5, q6, q7, q8, q9, q10⟩ := wake_rcv (L := L) (nowi := nowi) (rest := rest) (rb := rb) (R := R) w hp hc hd he v true (c' := { c with rcv := rr }) (d' := { d with rcv := r2 }) ⟨r.cb, r.size, r.buf, r.closed, r.room, r.nds, n2, r.snd, hz2⟩ n1
      have e : S.trySend j v = (⟨S.sts.set m (.rdyR k v true), S.tbs, S.cs.set j { d with rcv := r2 }, readyL S.line m⟩, true, true) := by
        unfold PS.trySend; simp only [hd]; rw [if_neg (by rw [← r.closed, h1]; simp), e2]; simp only []; rw [wokeR_w q1]
      exact ⟨n, t, g, g2, cap, cap2, Mid, _, q2, q3, q4, q5, q6, q7, q8, q9, q10, fun x F hA => by rw [e]; exact ent_pu1 rfl (bp_aft x F hA)⟩)
    (fun h1 h2 h3 x F hA => by
      rw [hcl] at h2 hA
      have hz := r.rcv
      rw [h2] at hz
      have e2 := hz.nil'
      have e : S.trySend j v = (S, false, false) := by
        unfold PS.trySend; simp only [hd]; rw [if_neg (by rw [← r.closed, h1]; simp), e2]; simp only []; rw [if_pos (by rw [← r.buf, ← r.size]; exact h3)]
      rw [e]
      exact ent_pu1 rfl (bp_ent (fun b hb => hb) hp hc x F hA))
    (fun h1 h2 h3 x F hA => by
      rw [hcl] at h2 hA
      have hz := r.rcv
      rw [h2] at hz
      have e2 := hz.nil'
      have e : S.trySend j v = (S.setC j { d with buf := d.buf ++ [v] }, true, true) := by
        unfold PS.trySend; simp only [hd]; rw [if_neg (by rw [← r.closed, h1]; simp), e2]; simp only []; rw [if_neg (by rw [← r.buf, ← r.size]; exact h3)]
      rw [e]
      refine ent_pu1 rfl (bp_chan hp hc hd (c' := { c with buf := c.buf ++ [v] }) (d' := { d with buf := d.buf ++ [v] }) ⟨r.cb, r.size, by rw [r.buf], r.closed, ⟨?_, r.room.2⟩, r.nds, r.ndr, r.snd, r.rcv⟩ x F hA)
      rw [ebuf, r.size] at h3
      simp only [List.length_append, List.length_singleton]
      omega)
  rw [r.cb] at sp
  refine (sp.at S3).mono fun u w' h => ?_
  obtain ⟨h1, h2⟩ := (h.ac (show _ = Pu (u = .tuple #[.bool (S.trySend j v).2.1, .bool (S.trySend j v).2.2]) * Bp L rb nowi rest kb (S.trySend j v).1 R by rw [star_emp])).pure
  exact ⟨h1, h2.bp⟩
theorem pw_tryrecv [Lcl R] (S1 : At (PWA L rb nowi rest kb S * R) w0 F0 w) {j : Nat} {d : C16} (hd : S.cs[j]? = some d) :
    Rets Tryz.prog 34 #[pt d.cb] w fun u w' => u = .tuple #[.int .i64 (S.tryRecv j).2.1, .bool (S.tryRecv j).2.2.1, .bool (S.tryRecv j).2.2.2] ∧ ∃ kb', (∀ b ∈ kb, b ∈ kb') ∧ At (PWA L rb nowi rest kb' (S.tryRecv j).1 * R) w0 F0 w' := by
  obtain ⟨q, hp, S2⟩ := pw_open S1
  obtain ⟨c, hc⟩ := hp.cget hd
  have r := hp.ch j c d hc hd
  obtain ⟨hcl, m1, m2⟩ := hp.ent hc hd
  have S3 := (S2.ac (po_eq hc)).ac (star_emp _).symm
  have hroom := r.room
  have ebuf := r.buf
  have sp := ch_tryrecv_i (rb := rb) (c := c) (ts := q.tks) (R := Ot rb nowi rest kb S q j R) (B := fun u => Pu (u = .tuple #[.int .i64 (S.tryRecv j).2.1, .bool (S.tryRecv j).2.2.1, .bool (S.tryRecv j).2.2.2]) * Bp L rb nowi rest kb (S.tryRecv j).1 R) m1 m2 (by rw [ebuf]; omega)
    (fun x rr h2 => by
      rw [hcl] at h2 ⊢
      have hz := r.snd
      rw [h2] at hz
      obtain ⟨m, r2, e2⟩ := hz.cons'
      rw [e2] at hz
      obtain ⟨he, hz2⟩ := hz.tail
      have hnd := r.nds
      rw [e2] at hnd
      obtain ⟨n1, n2⟩ := List.nodup_cons.1 hnd
      obtain ⟨k, n, t, g, g2, cap, cap2, Mid, q1, q2, q3, q4, q5, q6, q7, q8, q9, q10⟩ := wake_snd (L := L) (nowi := nowi) (rest := rest) (rb := rb) (R := R) w hp hc hd he true (c' := { c with buf := rbuf c.buf x.v, snd := rr }) (d' := { d with buf := rbuf d.buf x.v, snd := r2 }) ⟨r.cb, r.size, by rw [r.buf], r.closed, by
        refine ⟨?_, r.room.2⟩
        have : (rbuf d.buf x.v).length ≤ d.buf.length := by unfold rbuf; cases d.buf <;> simp
        show ((rbuf d.buf x.v).length : Int) ≤ d.size
        omega, n2, r.ndr, hz2, r.rcv⟩ n1
      have ev : S.valS m = x.v := by unfold PS.valS; rw [q1]
      have e : S.tryRecv j = (⟨S.sts.set m (.rdyS k true), S.tbs, S.cs.set j { d with buf := rbuf d.buf x.v, snd := r2 }, readyL S.line m⟩, rval d.buf x.v, true, true) := by
        unfold PS.tryRecv; simp only [hd]; rw [e2]; simp only []; rw [wokeS_w q1, ev]
      exact ⟨n, t, g, g2, cap, cap2, Mid, _, q2, q3, q4, q5, q6, q7, q8, q9, q10, fun y F hA => by rw [e, ebuf]; exact ent_pu1 rfl (bp_aft y F hA)⟩)
    (fun h2 x F hA => by
      rw [hcl] at h2 hA
      have hz := r.snd
      rw [h2] at hz
      have e2 := hz.nil'
      have e : S.tryRecv j = (S.setC j { d with buf := d.buf.tail }, d.buf.headD 0, !d.buf.isEmpty, !d.buf.isEmpty || d.closed) := by
        unfold PS.tryRecv; simp only [hd]; rw [e2]
      rw [e, ebuf, r.closed]
      refine ent_pu1 rfl (bp_chan hp hc hd (c' := { c with buf := c.buf.tail }) (d' := { d with buf := d.buf.tail }) ⟨r.cb, r.size, by rw [r.buf], r.closed, ⟨?_, r.room.2⟩, r.nds, r.ndr, r.snd, r.rcv⟩ x F hA)
      simp only [List.length_tail]
      omega)
  rw [r.cb] at sp
  refine (sp.at S3).mono fun u w' h => ?_
  obtain ⟨h1, h2⟩ := (h.ac (show _ = Pu (u = .tuple #[.int .i64 (S.tryRecv j).2.1, .bool (S.tryRecv j).2.2.1, .bool (S.tryRecv j).2.2.2]) * Bp L rb nowi rest kb (S.tryRecv j).1 R by rw [star_emp])).pure
  exact ⟨h1, h2.bp⟩
end
end Go.Proofs.YtbaidcnalkdhgaaGreat
set_option maxRecDepth 100000
namespace Go.Proofs.YtbaidcnalkdhgaaGreat
open Go Go.Eng
section
variable {κ : Type}
def PS.allR (S : PS κ) : List Nat → PS κ
  | [] => S
  | m :: r => (S.wokeR m 0 false).allR r
def PS.allS (S : PS κ) : List Nat → PS κ
  | [] => S
  | m :: r => (S.wokeS m false).allS r
def PS.ends (S : PS κ) (j : Nat) (d : C16) : PS κ := ((S.setC j { d with snd := [], rcv := [] }).allR d.rcv).allS d.snd
def PS.close (S : PS κ) (j : Nat) : PS κ × Bool := match S.cs[j]? with
  | none => (S, false)
  | some d => if d.closed then (S, false) else (S.ends j { d with closed := true }, true)
variable {L : LawP κ} {q : Q16} {nowi : Option Nat} {kb : List Bx} {S : PS κ} {rb : Nat} {rest : Int} {w0 w : World} {F0 : Nat → Prop} {R : Asr}
theorem ends_rcv {j m : Nat} {d : C16} {r : List Nat} {k : κ} (hr : d.rcv = m :: r) (h : S.sts[m]? = some (.wR k j)) : (⟨S.sts.set m (.rdyR k 0 false), S.tbs, S.cs.set j { d with rcv := r }, readyL S.line m⟩ : PS κ).ends j { d with rcv := r } = S.ends j d := by
  unfold PS.ends
  rw [hr]
  simp only [PS.allR]
  rw [wokeR_w h]
  simp only [PS.setC, List.set_set]
theorem ends_snd {j m : Nat} {d : C16} {r : List Nat} {k : κ} {v : Int} (hn : d.rcv = []) (hr : d.snd = m :: r) (h : S.sts[m]? = some (.wS k j v)) : (⟨S.sts.set m (.rdyS k false), S.tbs, S.cs.set j { d with snd := r }, readyL S.line m⟩ : PS κ).ends j { d with snd := r } = S.ends j d := by
  unfold PS.ends
  rw [hr, hn]
  simp only [PS.allR, PS.allS]
  rw [wokeS_w h]
  simp only [PS.setC, List.set_set]
theorem c16_same {d : C16} (h1 : d.snd = []) (h2 : d.rcv = []) : ({ d with snd := [], rcv := [] } : C16) = d := by
  cases d; simp only at h1 h2; subst h1; subst h2; rfl
structure CloSt (κ : Type) where
  c : CH
  q : Q16
  kb : List Bx
  S : PS κ
  d : C16
structure CloP (L : LawP κ) (nowi : Option Nat) (kb : List Bx) (T : PS κ) (j cb : Nat) (s : CloSt κ) : Prop where
  hkb : ∀ b ∈ kb, b ∈ s.kb
  hp : PRel L s.q nowi s.kb s.S
  hc : s.q.cs[j]? = some s.c
  hd : s.S.cs[j]? = some s.d
  hcl : s.d.closed = true
  hT : s.S.ends j s.d = T
  hcb : s.c.cb = cb
/-- the states of a closing -/
def closing [hR : Lcl R] (w : World) (L : LawP κ) (nowi : Option Nat) (kb : List Bx) (rb : Nat) (rest : Int) (T : PS κ) (j cb : Nat) : Clo_i rb cb (Bp L rb nowi rest kb T R) (CloSt κ) where
  P := CloP L nowi kb T j cb
  ch := fun s => s.c
  tk := fun s => s.q.tks
  rs := fun s => Ot rb nowi rest s.kb s.S s.q j R
  μ := fun s => s.c.rcv.length + s.c.snd.length
  loc := fun s => inferInstance
  mem := fun s p => by
    obtain ⟨_, m1, m2⟩ := p.hp.ent p.hc p.hd
    exact ⟨m1, m2, p.hcb⟩
  rcv := fun s x rr p h2 => by
    obtain ⟨hcl, m1, m2⟩ := p.hp.ent p.hc p.hd
    have r := p.hp.ch j _ _ p.hc p.hd
    rw [hcl] at h2 ⊢
    have hz := r.rcv
    rw [h2] at hz
    obtain ⟨m, r2, e2⟩ := hz.cons'
    rw [e2] at hz
    obtain ⟨he, hz2⟩ := hz.tail
    have hnd := r.ndr
    rw [e2] at hnd
    obtain ⟨n1, n2⟩ := List.nodup_cons.1 hnd
    obtain ⟨k, n, t, g, g2, cap, cap2, Mid, q1, q2, q3, q4, q5, q6, q7, q8, q9, q10⟩ := wake_rcv (L := L) (nowi := nowi) (rest := rest) (rb := rb) (R := R) w p.hp p.hc p.hd he 0 false (c' := { s.c with rcv := rr }) (d' := { s.d with rcv := r2 }) ⟨r.cb, r.size, r.buf, r.closed, r.room, r.nds, n2, r.snd, hz2⟩ n1
    refine ⟨n, t, g, g2, cap, cap2, Mid, q2, q3, q4, q5, q6, q7, q8, q9, q10.cong rfl (fun u x F hB => ?_)⟩
    obtain ⟨s', ⟨k1, k2, k3⟩, hB⟩ := ent_pu' hB
    refine ent_pu (⟨{ s.c with rcv := rr }, s'.1, s'.2, _, { s.d with rcv := r2 }⟩ : CloSt κ) ⟨⟨fun b hb => k1 b (p.hkb b hb), k2, k3, set_get _ p.hd, p.hcl, ?_, p.hcb⟩, ?_⟩ hB
    · exact (ends_rcv e2 q1).trans p.hT
    · show rr.length + s.c.snd.length < s.c.rcv.length + s.c.snd.length
      rw [h2, List.length_cons]; omega
  snd := fun s x rr p h1 h2 => by
    obtain ⟨hcl, m1, m2⟩ := p.hp.ent p.hc p.hd
    have r := p.hp.ch j _ _ p.hc p.hd
    rw [hcl] at h1 h2 ⊢
    have hz := r.snd
    rw [h2] at hz
    obtain ⟨m, r2, e2⟩ := hz.cons'
    rw [e2] at hz
    obtain ⟨he, hz2⟩ := hz.tail
    have hnd := r.nds
    rw [e2] at hnd
    obtain ⟨n1, n2⟩ := List.nodup_cons.1 hnd
    have hzr := r.rcv
    rw [h1] at hzr
    have e1 := hzr.nil'
    obtain ⟨k, n, t, g, g2, cap, cap2, Mid, q1, q2, q3, q4, q5, q6, q7, q8, q9, q10⟩ := wake_snd (L := L) (nowi := nowi) (rest := rest) (rb := rb) (R := R) w p.hp p.hc p.hd he false (c' := { s.c with snd := rr }) (d' := { s.d with snd := r2 }) ⟨r.cb, r.size, r.buf, r.closed, r.room, n2, r.ndr, hz2, r.rcv⟩ n1
    refine ⟨n, t, g, g2, cap, cap2, Mid, q2, q3, q4, q5, q6, q7, q8, q9, q10.cong rfl (fun u x F hB => ?_)⟩
    obtain ⟨s', ⟨k1, k2, k3⟩, hB⟩ := ent_pu' hB
    refine ent_pu (⟨{ s.c with snd := rr }, s'.1, s'.2, _, { s.d with snd := r2 }⟩ : CloSt κ) ⟨⟨fun b hb => k1 b (p.hkb b hb), k2, k3, set_get _ p.hd, p.hcl, ?_, p.hcb⟩, ?_, ?_⟩ hB
    · exact (ends_snd e1 e2 q1).trans p.hT
    · show (CH.cleaned { s.c with snd := rr } s'.1.tks).rcv = []
      unfold CH.cleaned
      simp only [h1, List.filter_nil]
    · show s.c.rcv.length + rr.length < s.c.rcv.length + s.c.snd.length
      rw [h2, List.length_cons]; omega
  fin := fun s p h1 h2 x F hA => by
    obtain ⟨hcl, m1, m2⟩ := p.hp.ent p.hc p.hd
    have r := p.hp.ch j _ _ p.hc p.hd
    rw [hcl] at h1 h2 hA
    have hz := r.snd
    rw [h2] at hz
    have e2 := hz.nil'
    have hzr := r.rcv
    rw [h1] at hzr
    have e1 := hzr.nil'
    have e : s.S = T := by
      rw [← p.hT]
      unfold PS.ends
      rw [e1, e2]
      simp only [PS.allR, PS.allS, PS.setC]
      rw [c16_same e2 e1]
      have h3 : s.S.cs.set j s.d = s.S.cs := by
        refine List.ext_getElem? (fun i => ?_)
        by_cases e : i = j
        · subst e; rw [set_get _ p.hd, p.hd]
        · rw [set_get_ne _ e]
      rw [h3]
    rw [← e]
    exact bp_ent p.hkb p.hp p.hc x F hA
theorem pw_close [Lcl R] (S1 : At (PWA L rb nowi rest kb S * R) w0 F0 w) {j : Nat} {d : C16} (hd : S.cs[j]? = some d) :
    Rets Tryz.prog 32 #[pt d.cb] w fun u w' => u = .int .i64 (if (S.close j).2 then 0 else 150) ∧ ∃ kb', (∀ b ∈ kb, b ∈ kb') ∧ At (PWA L rb nowi rest kb' (S.close j).1 * R) w0 F0 w' := by
  obtain ⟨q, hp, S2⟩ := pw_open S1
  obtain ⟨c, hc⟩ := hp.cget hd
  have r := hp.ch j c d hc hd
  have S3 := S2.ac (po_eq hc)
  cases hcl : d.closed with
  | true =>
    have e : S.close j = (S, false) := by unfold PS.close; simp only [hd]; rw [if_pos hcl]
    rw [e, show pt d.cb = pt c.cb by rw [r.cb]]
    refine (ch_close2_i S3 (by rw [r.closed]; exact hcl)).mono fun u w' ⟨h1, h2⟩ => ?_
    subst h1
    exact ⟨h2, kb, fun b hb => hb, pw_shut hp (S3.ac (po_eq hc).symm)⟩
  | false =>
    have e : S.close j = (S.ends j { d with closed := true }, true) := by unfold PS.close; simp only [hd]; rw [if_neg (by rw [hcl]; simp)]
    rw [e, show pt d.cb = pt c.cb by rw [r.cb]]
    have C := closing (R := R) w L nowi kb rb rest (S.ends j { d with closed := true }) j c.cb
    have hp2 := hp.chan hc hd (c' := { c with closed := true }) (d' := { d with closed := true }) ⟨r.cb, r.size, r.buf, rfl, r.room, r.nds, r.ndr, r.snd, r.rcv⟩
    have sp := ch_close_i (rb := rb) (c := c) (ts := q.tks) (R := Ot rb nowi rest kb (S.setC j { d with closed := true }) { q with cs := q.cs.set j { c with closed := true } } j R) (closing (R := R) w L nowi kb rb rest (S.ends j { d with closed := true }) j c.cb) ⟨{ c with closed := true }, { q with cs := q.cs.set j { c with closed := true } }, kb, S.setC j { d with closed := true }, { d with closed := true }⟩
      ⟨fun b hb => hb, hp2, set_get _ hc, set_get _ hd, rfl, by simp only [PS.ends, PS.setC, List.set_set], rfl⟩ rfl rfl rfl (by rw [r.closed]; exact hcl)
    refine (sp.at1 (S3.ac ?_)).mono fun u w' h => ?_
    · unfold Ot
      rw [show ({ q with cs := q.cs.set j { c with closed := true } } : Q16).cs.eraseIdx j = q.cs.eraseIdx j from List.eraseIdx_set_eq]
      rfl
    · obtain ⟨h1, h2⟩ := h.pure
      exact ⟨h1, h2.bp⟩
end
end Go.Proofs.YtbaidcnalkdhgaaGreat
set_option maxRecDepth 100000
namespace Go.Proofs.YtbaidcnalkdhgaaGreat
open Go Go.Eng
section
variable {κ : Type}
def PS.setSt (S : PS κ) (i : Nat) (s : St κ) : PS κ := ⟨S.sts.set i s, S.tbs, S.cs, S.line⟩
def PS.send (S : PS κ) (i j : Nat) (v : Int) (k : κ) : PS κ :=
  let T := S.trySend j v
  if T.2.2 then ⟨T.1.sts.set i (.rdyS k T.2.1), T.1.tbs, T.1.cs, readyL T.1.line i⟩
  else match S.cs[j]? with
    | none => S
    | some d => ⟨S.sts.set i (.wS k j v), S.tbs, S.cs.set j { d with snd := d.snd ++ [i] }, S.line⟩
theorem wokeR_set {S : PS κ} {i m : Nat} {s s0 : St κ} {v : Int} {ok : Bool} (h0 : S.sts[i]? = some s0) (hw0 : s0.waits = false) (hw : s.waits = false) : (S.setSt i s).wokeR m v ok = (S.wokeR m v ok).setSt i s := by
  unfold PS.wokeR PS.setSt
  by_cases e : m = i
  · subst e
    simp only [set_get _ h0, h0]
    cases s <;> cases s0 <;> first | rfl | (cases hw; done) | (cases hw0; done)
  · simp only [set_get_ne _ e]
    cases h : S.sts[m]? with
    | none => rfl
    | some t => cases t <;> first | rfl | (simp only []; rw [List.set_comm _ _ (Ne.symm e)])
theorem wokeS_set {S : PS κ} {i m : Nat} {s s0 : St κ} {ok : Bool} (h0 : S.sts[i]? = some s0) (hw0 : s0.waits = false) (hw : s.waits = false) : (S.setSt i s).wokeS m ok = (S.wokeS m ok).setSt i s := by
  unfold PS.wokeS PS.setSt
  by_cases e : m = i
  · subst e
    simp only [set_get _ h0, h0]
    cases s <;> cases s0 <;> first | rfl | (cases hw; done) | (cases hw0; done)
  · simp only [set_get_ne _ e]
    cases h : S.sts[m]? with
    | none => rfl
    | some t => cases t <;> first | rfl | (simp only []; rw [List.set_comm _ _ (Ne.symm e)])
theorem trySend_set {S : PS κ} {i j : Nat} {s s0 : St κ} {v : Int} (h0 : S.sts[i]? = some s0) (hw0 : s0.waits = false) (hw : s.waits = false) : (S.setSt i s).trySend j v = ((S.trySend j v).1.setSt i s, (S.trySend j v).2) := by
  unfold PS.trySend
  have e : (S.setSt i s).cs = S.cs := rfl
  rw [e]
  cases S.cs[j]? with
  | none => rfl
  | some d =>
    simp only []
    by_cases h1 : d.closed = true
    · rw [if_pos h1, if_pos h1]
    · rw [if_neg h1, if_neg h1]
      cases d.rcv with
      | cons m r =>
        simp only []
        have := wokeR_set (S := S.setC j { d with rcv := r }) (i := i) (m := m) (s := s) (s0 := s0) (v := v) (ok := true) h0 hw0 hw
        rw [← this]; rfl
      | nil =>
        simp only []
        by_cases h2 : (d.buf.length : Int) = d.size
        · rw [if_pos h2, if_pos h2]
        · rw [if_neg h2, if_neg h2]; rfl
theorem valS_set {S : PS κ} {i m : Nat} {s s0 : St κ} (h0 : S.sts[i]? = some s0) (hw0 : s0.waits = false) (hw : s.waits = false) : (S.setSt i s).valS m = S.valS m := by
  unfold PS.valS PS.setSt
  by_cases e : m = i
  · subst e
    simp only [set_get _ h0, h0]
    cases s <;> cases s0 <;> first | rfl | (cases hw; done) | (cases hw0; done)
  · simp only [set_get_ne _ e]
theorem tryRecv_set {S : PS κ} {i j : Nat} {s s0 : St κ} (h0 : S.sts[i]? = some s0) (hw0 : s0.waits = false) (hw : s.waits = false) : (S.setSt i s).tryRecv j = ((S.tryRecv j).1.setSt i s, (S.tryRecv j).2) := by
  unfold PS.tryRecv
  have e : (S.setSt i s).cs = S.cs := rfl
  rw [e]
  cases S.cs[j]? with
  | none => rfl
  | some d =>
    simp only []
    cases d.snd with
    | cons m r =>
      simp only []
      have := wokeS_set (S := S.setC j { d with buf := rbuf d.buf (S.valS m), snd := r }) (i := i) (m := m) (s := s) (s0 := s0) (ok := true) h0 hw0 hw
      rw [valS_set h0 hw0 hw, ← this]; rfl
    | nil => rfl
theorem wokeR_keep {S : PS κ} {i m : Nat} {s : St κ} {v : Int} {ok : Bool} (h0 : S.sts[i]? = some s) (hw : s.waits = false) : (S.wokeR m v ok).sts[i]? = some s := by
  unfold PS.wokeR
  by_cases e : m = i
  · subst e
    rw [h0]
    cases s <;> first | exact h0 | (cases hw; done)
  · cases h : S.sts[m]? with
    | none => exact h0
    | some t => cases t <;> first | exact h0 | (simp only []; rw [set_get_ne _ (Ne.symm e)]; exact h0)
theorem wokeS_keep {S : PS κ} {i m : Nat} {s : St κ} {ok : Bool} (h0 : S.sts[i]? = some s) (hw : s.waits = false) : (S.wokeS m ok).sts[i]? = some s := by
  unfold PS.wokeS
  by_cases e : m = i
  · subst e
    rw [h0]
    cases s <;> first | exact h0 | (cases hw; done)
  · cases h : S.sts[m]? with
    | none => exact h0
    | some t => cases t <;> first | exact h0 | (simp only []; rw [set_get_ne _ (Ne.symm e)]; exact h0)
theorem trySend_keep {S : PS κ} {i j : Nat} {s : St κ} {v : Int} (h0 : S.sts[i]? = some s) (hw : s.waits = false) : (S.trySend j v).1.sts[i]? = some s := by
  unfold PS.trySend
  cases S.cs[j]? with
  | none => exact h0
  | some d =>
    simp only []
    by_cases h1 : d.closed = true
    · rw [if_pos h1]; exact h0
    · rw [if_neg h1]
      cases d.rcv with
      | cons m r => exact wokeR_keep (S := S.setC j { d with rcv := r }) h0 hw
      | nil =>
        simp only []
        by_cases h2 : (d.buf.length : Int) = d.size
        · rw [if_pos h2]; exact h0
        · rw [if_neg h2]; exact h0
theorem tryRecv_keep {S : PS κ} {i j : Nat} {s : St κ} (h0 : S.sts[i]? = some s) (hw : s.waits = false) : (S.tryRecv j).1.sts[i]? = some s := by
  unfold PS.tryRecv
  cases S.cs[j]? with
  | none => exact h0
  | some d =>
    simp only []
    cases d.snd with
    | cons m r => exact wokeS_keep (S := S.setC j { d with buf := rbuf d.buf (S.valS m), snd := r }) h0 hw
    | nil => exact h0
theorem trySend_no {S : PS κ} {j : Nat} {v : Int} {d : C16} (hd : S.cs[j]? = some d) (h : (S.trySend j v).2.2 = false) : (S.trySend j v).1 = S ∧ d.closed = false ∧ d.rcv = [] ∧ (d.buf.length : Int) = d.size := by
  unfold PS.trySend at h ⊢
  simp only [hd] at h ⊢
  by_cases h1 : d.closed = true
  · rw [if_pos h1] at h; cases h
  · rw [if_neg h1] at h ⊢
    cases hr : d.rcv with
    | cons m r => rw [hr] at h; cases h
    | nil =>
      rw [hr] at h
      simp only [] at h ⊢
      by_cases h2 : (d.buf.length : Int) = d.size
      · rw [if_pos h2]; exact ⟨rfl, by simpa using h1, trivial, h2⟩
      · rw [if_neg h2] at h; cases h
theorem tryRecv_no {S : PS κ} {j : Nat} {d : C16} (hd : S.cs[j]? = some d) (h : (S.tryRecv j).2.2.2 = false) : (S.tryRecv j).1 = S ∧ d.closed = false ∧ d.snd = [] ∧ d.buf = [] := by
  unfold PS.tryRecv at h ⊢
  simp only [hd] at h ⊢
  cases hr : d.snd with
  | cons m r => rw [hr] at h; cases h
  | nil =>
    rw [hr] at h
    simp only [Bool.or_eq_false_iff, Bool.not_eq_false', List.isEmpty_iff] at h
    refine ⟨?_, h.2, rfl, h.1⟩
    have e : ({ d with buf := d.buf.tail, snd := [] } : C16) = d := by
      cases d; simp only at h hr; rw [h.1, hr]; rfl
    show S.setC j { d with buf := d.buf.tail, snd := [] } = S
    rw [e]
    have h3 : S.cs.set j d = S.cs := by
      refine List.ext_getElem? (fun i => ?_)
      by_cases e : i = j
      · subst e; rw [set_get _ hd, hd]
      · rw [set_get_ne _ e]
    unfold PS.setC
    rw [h3]
end
end Go.Proofs.YtbaidcnalkdhgaaGreat
set_option maxRecDepth 100000
namespace Go.Proofs.YtbaidcnalkdhgaaGreat
open Go Go.Eng
theorem tks_tn {ts : List TKT} {R : Asr} {w0 w : World} {F0 : Nat → Prop} (S : At (TksA ts * R) w0 F0 w) : ∀ (i j : Nat) t u, ts[i]? = some t → ts[j]? = some u → t.b = u.b → i = j := by
  have key : ∀ (i j : Nat) t u, i < j → ts[i]? = some t → ts[j]? = some u → t.b ≠ u.b := fun i j t u hij ht hu => by
    have hj : (ts.eraseIdx i)[j - 1]? = some u := by
      rw [List.getElem?_eraseIdx, if_neg (by omega)]
      rw [show j - 1 + 1 = j by omega]; exact hu
    have S1 := S.ac (show _ = Pt t.b [t.fire.1, .bool t.fired] 175 * (Pt u.b [u.fire.1, .bool u.fired] 175 * (TksA ((ts.eraseIdx i).eraseIdx (j - 1)) * R)) by
      rw [tks_pick ht, tks_pick hj]; unfold TkA; ac_rfl)
    exact S1.ne
  intro i j t u ht hu e
  rcases Nat.lt_trichotomy i j with h | h | h
  · exact absurd e (key i j t u h ht hu)
  · exact h
  · exact absurd e.symm (key j i u t h hu ht)
theorem set_same {α : Type} {l : List α} {i : Nat} {a : α} (h : l[i]? = some a) : l.set i a = l := by
  refine List.ext_getElem? (fun k => ?_)
  by_cases e : k = i
  · subst e; rw [set_get _ h, h]
  · rw [set_get_ne _ e]
section
variable {κ : Type} {L : LawP κ} {q : Q16} {nowi : Option Nat} {kb : List Bx} {S : PS κ} {i : Nat} {x : Nat × TK} {g0 : Gh}
/-- parked: a task's own field of wake -/
def parkW (x : Nat × TK) (f : FuncId) (cap : Array Value) : Nat × TK := (x.1, { x.2 with wake := ⟨.func (.func f) #[] cap, rfl⟩, said := true, parked := true })
theorem prel_parkS (hp : PRel L q (some i) kb S) (hx : q.ts[i]? = some x) (hg : q.ghs[i]? = some g0) (hi : S.sts[i]? = some .run) {thb tkb tb : Nat} {f : Value} {k : κ} (hth : L.th k kb f) :
    PRel L ⟨q.ts.set i (parkW x 90 #[pt thb, pt tb]), q.cs, q.tks, q.ghs.set i (.s thb tkb tb 0 false)⟩ (some i) ((thb, [f], 36) :: (tkb, [pt x.1], 34) :: kb) (S.setSt i (.mS k tkb tb)) := by
  have hkb : ∀ b ∈ kb, b ∈ ((thb, [f], 36) :: (tkb, [pt x.1], 34) :: kb : List Bx) := fun b hb => List.mem_cons_of_mem _ (List.mem_cons_of_mem _ hb)
  have ho := (hp.tk i x _ _ hx hg hi).2.2
  refine hp.upd hx hg hi rfl hkb (fun _ _ _ _ _ _ _ _ r => r) ?_ rfl ho (fun _ _ => Iff.rfl) (fun _ => rfl) (fun h => by cases h) (fun _ => rfl) hp.lc (hp.keepC hi rfl (TkKeep.refl _)) hp.nd hp.nn (fun _ _ => Iff.rfl) ?_ hp.tn (fun h => by cases h)
  · exact ⟨0, false, ⟨thb, tkb, tb, f, rfl, rfl, List.mem_cons_self, L.mth hkb hth, List.mem_cons_of_mem _ List.mem_cons_self⟩, thb, rfl⟩
  · rw [hp.rdy i, hi]
    simp [St.rdy]
theorem prel_parkR (hp : PRel L q (some i) kb S) (hx : q.ts[i]? = some x) (hg : q.ghs[i]? = some g0) (hi : S.sts[i]? = some .run) {thb tkb vx tb : Nat} {f : Value} {k : κ} (hth : L.tr k kb f) :
    PRel L ⟨q.ts.set i (parkW x 94 #[pt thb, pt vx, pt tb]), q.cs, q.tks, q.ghs.set i (.r thb tkb vx tb 0 0 false)⟩ (some i) ((thb, [f], 39) :: (tkb, [pt x.1], 34) :: kb) (S.setSt i (.mR k tkb vx tb)) := by
  have hkb : ∀ b ∈ kb, b ∈ ((thb, [f], 39) :: (tkb, [pt x.1], 34) :: kb : List Bx) := fun b hb => List.mem_cons_of_mem _ (List.mem_cons_of_mem _ hb)
  have ho := (hp.tk i x _ _ hx hg hi).2.2
  refine hp.upd hx hg hi rfl hkb (fun _ _ _ _ _ _ _ _ r => r) ?_ rfl ho (fun _ _ => Iff.rfl) (fun _ => rfl) (fun h => by cases h) (fun _ => rfl) hp.lc (hp.keepC hi rfl (TkKeep.refl _)) hp.nd hp.nn (fun _ _ => Iff.rfl) ?_ hp.tn (fun h => by cases h)
  · exact ⟨0, 0, false, ⟨thb, tkb, vx, tb, f, rfl, rfl, List.mem_cons_self, L.mtr hkb hth, List.mem_cons_of_mem _ List.mem_cons_self⟩, thb, rfl⟩
  · rw [hp.rdy i, hi]
    simp [St.rdy]
/-- its own wake -/
theorem prel_ownS (hp : PRel L q (some i) kb S) (hx : q.ts[i]? = some x) {k : κ} {thb tkb tb n : Nat} {ok0 : Bool} (hi : S.sts[i]? = some (.mS k tkb tb)) (hg : q.ghs[i]? = some (.s thb tkb tb n ok0)) (ok : Bool) (fb yb : Nat) :
    PRel L ⟨q.ts.set i (woken x fb yb), q.cs, q.tks, q.ghs.set i (.s thb tkb tb n ok)⟩ (some i) (wokenK x fb yb kb) (⟨S.sts.set i (.rdyS k ok), S.tbs, S.cs, readyL S.line i⟩ : PS κ) := by
  obtain ⟨⟨n', ok', ⟨thb', tkb', tb', ff, e1, e2, e3, e4, e5⟩, _⟩, hpk, hov⟩ := hp.tk i x _ _ hx hg hi
  cases e1
  obtain ⟨r1, r2, r3⟩ := hp.ready i
  have hkb : ∀ b ∈ kb, b ∈ wokenK x fb yb kb := fun b hb => List.mem_cons_of_mem _ (List.mem_cons_of_mem _ hb)
  refine hp.upd hx hg hi rfl hkb (fun _ _ _ _ _ _ _ _ r => r) ?_ rfl hov (fun _ _ => Iff.rfl) (fun h => Eq.trans (hp.said i x _ h hx hi) rfl) (fun h => by cases h) (fun _ => rfl) hp.lc (hp.keepC hi rfl (TkKeep.refl _)) r1 r2 (fun m hm => ?_) ?_ hp.tn (fun h => by cases h)
  · exact ⟨n, x.2.wake.1, ⟨thb, tkb, tb, ff, rfl, e2, hkb _ e3, L.mth hkb e4, hkb _ e5⟩, fb, yb, rfl, List.mem_cons_self, List.mem_cons_of_mem _ List.mem_cons_self⟩
  · rw [r3 m]
    exact ⟨fun h => h.elim (fun h => absurd h hm) id, .inr⟩
  · exact ⟨fun _ => rfl, fun _ => (r3 i).2 (.inl rfl)⟩
theorem prel_ownR (hp : PRel L q (some i) kb S) (hx : q.ts[i]? = some x) {k : κ} {thb tkb vx tb n : Nat} {v0 : Int} {ok0 : Bool} (hi : S.sts[i]? = some (.mR k tkb vx tb)) (hg : q.ghs[i]? = some (.r thb tkb vx tb n v0 ok0)) (v : Int) (ok : Bool) (fb yb : Nat) :
    PRel L ⟨q.ts.set i (woken x fb yb), q.cs, q.tks, q.ghs.set i (.r thb tkb vx tb n v ok)⟩ (some i) (wokenK x fb yb kb) (⟨S.sts.set i (.rdyR k v ok), S.tbs, S.cs, readyL S.line i⟩ : PS κ) := by
  obtain ⟨⟨n', v', ok', ⟨thb', tkb', vx', tb', ff, e1, e2, e3, e4, e5⟩, _⟩, hpk, hov⟩ := hp.tk i x _ _ hx hg hi
  cases e1
  obtain ⟨r1, r2, r3⟩ := hp.ready i
  have hkb : ∀ b ∈ kb, b ∈ wokenK x fb yb kb := fun b hb => List.mem_cons_of_mem _ (List.mem_cons_of_mem _ hb)
  refine hp.upd hx hg hi rfl hkb (fun _ _ _ _ _ _ _ _ r => r) ?_ rfl hov (fun _ _ => Iff.rfl) (fun h => Eq.trans (hp.said i x _ h hx hi) rfl) (fun h => by cases h) (fun _ => rfl) hp.lc (hp.keepC hi rfl (TkKeep.refl _)) r1 r2 (fun m hm => ?_) ?_ hp.tn (fun h => by cases h)
  · exact ⟨n, x.2.wake.1, ⟨thb, tkb, vx, tb, ff, rfl, e2, hkb _ e3, L.mtr hkb e4, hkb _ e5⟩, fb, yb, rfl, List.mem_cons_self, List.mem_cons_of_mem _ List.mem_cons_self⟩
  · rw [r3 m]
    exact ⟨fun h => h.elim (fun h => absurd h hm) id, .inr⟩
  · exact ⟨fun _ => rfl, fun _ => (r3 i).2 (.inl rfl)⟩
/-- it waits -/
theorem prel_waitS (hp : PRel L q (some i) kb S) (hx : q.ts[i]? = some x) {k : κ} {thb tkb tb n : Nat} {ok0 : Bool} (hi : S.sts[i]? = some (.mS k tkb tb)) (hg : q.ghs[i]? = some (.s thb tkb tb n ok0)) {j : Nat} {c : CH} {d : C16} (hc : q.cs[j]? = some c) (hd : S.cs[j]? = some d) (v : Int) {b : Nat} {e : SE} (he : e.k = b ∧ e.v = v ∧ e.f.1 = .func (.func 93) #[] #[pt tb]) {fv : OV} (hfv : fv.1 = .func (.func 92) #[] #[pt tkb]) (htn : ∀ (i j : Nat) t u, (q.tks ++ [⟨b, fv, false⟩])[i]? = some t → (q.tks ++ [⟨b, fv, false⟩])[j]? = some u → t.b = u.b → i = j) :
    PRel L ⟨q.ts, q.cs.set j { c with snd := c.snd ++ [e] }, q.tks ++ [⟨b, fv, false⟩], q.ghs.set i (.s thb tkb tb q.tks.length ok0)⟩ (some i) kb (⟨S.sts.set i (.wS k j v), S.tbs, S.cs.set j { d with snd := d.snd ++ [i] }, S.line⟩ : PS κ) := by
  obtain ⟨⟨n', ok', ⟨thb', tkb', tb', ff, e1, e2, e3, e4, e5⟩, _⟩, hpk, hov⟩ := hp.tk i x _ _ hx hg hi
  cases e1
  have hnew : (q.tks ++ [(⟨b, fv, false⟩ : TKT)])[q.tks.length]? = some ⟨b, fv, false⟩ := by rw [List.getElem?_append_right (Nat.le_refl _), Nat.sub_self]; rfl
  have := hp.upd hx hg hi (x' := x) (g' := .s thb tkb tb q.tks.length ok0) (s' := .wS k j v) (cs' := q.cs.set j { c with snd := c.snd ++ [e] }) (tks' := q.tks ++ [⟨b, fv, false⟩]) (ds' := S.cs.set j { d with snd := d.snd ++ [i] }) (line' := S.line) (nowi' := some i) rfl (fun b hb => hb) (fun _ _ _ _ _ _ _ _ r => r.snoc _) ?_ hpk hov (fun _ _ => Iff.rfl) (fun h => Eq.trans (hp.said i x _ h hx hi) rfl) (fun h => by cases h) (fun _ => rfl) ?_ ?_ hp.nd hp.nn (fun _ _ => Iff.rfl) ?_ htn ?_
  · rw [set_same hx] at this
    exact this
  · exact ⟨_, ok0, ⟨thb, tkb, tb, ff, rfl, e2, e3, e4, e5⟩, thb, tkb, tb, ok0, _, rfl, hnew, rfl, hfv⟩
  · simp only [List.length_set]; exact hp.lc
  · intro l cl dl hcl hdl
    by_cases e : l = j
    · subst e
      rw [set_get _ hc] at hcl
      rw [set_get _ hd] at hdl
      cases hcl; cases hdl
      have r := hp.ch l c d hc hd
      obtain ⟨h1, h2⟩ := r.not_in hi rfl
      have r2 := r.keep1 (x' := x) (g' := .s thb tkb tb q.tks.length ok0) (s' := .wS k l v) (cs' := q.cs.set l { c with snd := c.snd ++ [e] }) (ds' := S.cs.set l { d with snd := d.snd ++ [i] }) (line' := S.line) h1 h2 (TkKeep.snoc q.tks ⟨b, fv, false⟩)
      refine ⟨r.cb, r.size, r.buf, r.closed, r.room, ?_, r.ndr, r2.snd.snoc ?_, r2.rcv⟩
      · rw [List.nodup_append]
        refine ⟨r.nds, by simp, fun a ha b hb => ?_⟩
        simp only [List.mem_singleton] at hb
        subst hb
        intro e
        exact h1 (e ▸ ha)
      · exact ⟨k, v, thb, tkb, tb, q.tks.length, ok0, _, set_get _ hi, set_get _ hg, hnew, he.1, he.2.1, he.2.2⟩
    · rw [set_get_ne _ e] at hcl hdl
      have r := hp.ch l cl dl hcl hdl
      obtain ⟨h1, h2⟩ := r.not_in hi rfl
      exact r.keep1 h1 h2 (TkKeep.snoc _ _)
  · rw [hp.rdy i, hi]
    simp [St.rdy]
  · intro _ m h t n' hm hh ht hw hn hn'
    cases hn'
    obtain ⟨y, h', hy, hh'⟩ := hp.xs ht
    rw [hh] at hh'
    cases hh'
    obtain ⟨rt, _⟩ := hp.tk m y h t hy hh ht
    cases t with
    | wS k' j' v' =>
      obtain ⟨n2, _, _, _, _, _, _, u, g1, g2, _⟩ := rt
      subst g1
      cases hn
      have := (List.getElem?_eq_some_iff.1 g2).1
      omega
    | wR k' j' =>
      obtain ⟨n2, _, _, _, _, _, _, _, _, _, u, g1, g2, _⟩ := rt
      subst g1
      cases hn
      have := (List.getElem?_eq_some_iff.1 g2).1
      omega
    | over => cases hw
    | run => cases hw
    | mS _ _ _ => cases hw
    | mR _ _ _ _ => cases hw
    | rdyS _ _ => cases hw
    | rdyR _ _ _ => cases hw
    | rdyY _ => cases hw
    | wX _ => cases hw
theorem prel_waitR (hp : PRel L q (some i) kb S) (hx : q.ts[i]? = some x) {k : κ} {thb tkb vx tb n : Nat} {v0 : Int} {ok0 : Bool} (hi : S.sts[i]? = some (.mR k tkb vx tb)) (hg : q.ghs[i]? = some (.r thb tkb vx tb n v0 ok0)) {j : Nat} {c : CH} {d : C16} (hc : q.cs[j]? = some c) (hd : S.cs[j]? = some d) {b : Nat} {e : RE} (he : e.k = b ∧ e.f.1 = .func (.func 96) #[] #[pt vx, pt tb]) {fv : OV} (hfv : fv.1 = .func (.func 95) #[] #[pt tkb]) (htn : ∀ (i j : Nat) t u, (q.tks ++ [⟨b, fv, false⟩])[i]? = some t → (q.tks ++ [⟨b, fv, false⟩])[j]? = some u → t.b = u.b → i = j) :
    PRel L ⟨q.ts, q.cs.set j { c with rcv := c.rcv ++ [e] }, q.tks ++ [⟨b, fv, false⟩], q.ghs.set i (.r thb tkb vx tb q.tks.length v0 ok0)⟩ (some i) kb (⟨S.sts.set i (.wR k j), S.tbs, S.cs.set j { d with rcv := d.rcv ++ [i] }, S.line⟩ : PS κ) := by
  obtain ⟨⟨n', v', ok', ⟨thb', tkb', vx', tb', ff, e1, e2, e3, e4, e5⟩, _⟩, hpk, hov⟩ := hp.tk i x _ _ hx hg hi
  cases e1
  have hnew : (q.tks ++ [(⟨b, fv, false⟩ : TKT)])[q.tks.length]? = some ⟨b, fv, false⟩ := by rw [List.getElem?_append_right (Nat.le_refl _), Nat.sub_self]; rfl
  have := hp.upd hx hg hi (x' := x) (g' := .r thb tkb vx tb q.tks.length v0 ok0) (s' := .wR k j) (cs' := q.cs.set j { c with rcv := c.rcv ++ [e] }) (tks' := q.tks ++ [⟨b, fv, false⟩]) (ds' := S.cs.set j { d with rcv := d.rcv ++ [i] }) (line' := S.line) (nowi' := some i) rfl (fun b hb => hb) (fun _ _ _ _ _ _ _ _ r => r.snoc _) ?_ hpk hov (fun _ _ => Iff.rfl) (fun h => Eq.trans (hp.said i x _ h hx hi) rfl) (fun h => by cases h) (fun _ => rfl) ?_ ?_ hp.nd hp.nn (fun _ _ => Iff.rfl) ?_ htn ?_
  · rw [set_same hx] at this
    exact this
  · exact ⟨_, v0, ok0, ⟨thb, tkb, vx, tb, ff, rfl, e2, e3, e4, e5⟩, thb, tkb, vx, tb, v0, ok0, _, rfl, hnew, rfl, hfv⟩
  · simp only [List.length_set]; exact hp.lc
  · intro l cl dl hcl hdl
    by_cases e : l = j
    · subst e
      rw [set_get _ hc] at hcl
      rw [set_get _ hd] at hdl
      cases hcl; cases hdl
      have r := hp.ch l c d hc hd
      obtain ⟨h1, h2⟩ := r.not_in hi rfl
      have r2 := r.keep1 (x' := x) (g' := .r thb tkb vx tb q.tks.length v0 ok0) (s' := .wR k l) (cs' := q.cs.set l { c with rcv := c.rcv ++ [e] }) (ds' := S.cs.set l { d with rcv := d.rcv ++ [i] }) (line' := S.line) h1 h2 (TkKeep.snoc q.tks ⟨b, fv, false⟩)
      refine ⟨r.cb, r.size, r.buf, r.closed, r.room, r.nds, ?_, r2.snd, r2.rcv.snoc ?_⟩
      · rw [List.nodup_append]
        refine ⟨r.ndr, by simp, fun a ha b hb => ?_⟩
        simp only [List.mem_singleton] at hb
        subst hb
        intro e
        exact h2 (e ▸ ha)
      · exact ⟨k, thb, tkb, vx, tb, q.tks.length, v0, ok0, _, set_get _ hi, set_get _ hg, hnew, he.1, he.2⟩
    · rw [set_get_ne _ e] at hcl hdl
      have r := hp.ch l cl dl hcl hdl
      obtain ⟨h1, h2⟩ := r.not_in hi rfl
      exact r.keep1 h1 h2 (TkKeep.snoc _ _)
  · rw [hp.rdy i, hi]
    simp [St.rdy]
  · intro _ m h t n' hm hh ht hw hn hn'
    cases hn'
    obtain ⟨y, h', hy, hh'⟩ := hp.xs ht
    rw [hh] at hh'
    cases hh'
    obtain ⟨rt, _⟩ := hp.tk m y h t hy hh ht
    cases t with
    | wS k' j' v' =>
      obtain ⟨n2, _, _, _, _, _, _, u, g1, g2, _⟩ := rt
      subst g1
      cases hn
      have := (List.getElem?_eq_some_iff.1 g2).1
      omega
    | wR k' j' =>
      obtain ⟨n2, _, _, _, _, _, _, _, _, _, u, g1, g2, _⟩ := rt
      subst g1
      cases hn
      have := (List.getElem?_eq_some_iff.1 g2).1
      omega
    | over => cases hw
    | run => cases hw
    | mS _ _ _ => cases hw
    | mR _ _ _ _ => cases hw
    | rdyS _ _ => cases hw
    | rdyR _ _ _ => cases hw
    | rdyY _ => cases hw
    | wX _ => cases hw
end
end Go.Proofs.YtbaidcnalkdhgaaGreat
set_option maxRecDepth 100000
namespace Go.Proofs.YtbaidcnalkdhgaaGreat
open Go Go.Eng
theorem ch_may {R : Asr} [Lcl R] {w0 w : World} {F0 : Nat → Prop} {rb : Nat} {now : Option Nat} {rest : Int} {ready : List Int} {ts : List (Nat × TK)} (S : At (RtA rb now rest ready ts * R) w0 F0 w) {i : Nat} {x : Nat × TK} (hx : ts[i]? = some x) :
    Rets Tryz.prog 88 #[pt x.1, pt rb] w fun u w' => w = w' ∧ u = .int .i64 0 := by
  obtain ⟨_, _, _, _, _, s, _⟩ := S.rt
  have hrb := s.hr
  refine rets_of Tryz.func88 rfl Tryz.ntmps88 rfl rfl (by kernel_rfl) ?_
  (apply vC_seq; apply vC_region; (refine vE rfl ?_); apply vL_nil; apply seqP_normal; apply vC_seq; apply vC_block; apply vC_seq; apply vC_region; (refine vE rfl ?_))
  refine vL_callF rfl (runtimeA S hx) rfl ?_
  rintro _ _ ⟨rfl, rfl⟩
  ((iterate 8 (first | (refine vE rfl ?_) | ((with_reducible apply vL_val); (case h => ((with_reducible apply opv_eql_pnil); exact rfl; exact rfl; (simp; done)))) | ((with_reducible apply vL_wanted); exact rfl))); apply vL_nil; apply seqP_normal; ((apply vC_cond_false); exact rfl); apply vC_seq; apply vC_region; (refine vE rfl ?_))
  refine vL_callF rfl (runtimeA S hx) rfl ?_
  rintro _ _ ⟨rfl, rfl⟩
  ((refine vE rfl ?_); ((apply vL_val); (case h => ((apply opv_neq_ptr); exact rfl; exact rfl; exact rfl; assumption; assumption))); (refine vE rfl ?_); apply vL_nil; apply seqP_normal; (refine vC_cond_dec rfl (fun h => by omega) (fun _ => ?_)); apply vC_skip; apply blockP_normal; apply seqP_normal; apply vC_seq; apply vC_region; (refine vE rfl ?_); apply vL_nil; apply seqP_normal; apply vC_ret)
  (apply ret1; (case h1 => (exact norm_eq rfl)))
  exact ⟨rfl, rfl⟩
section
theorem wokeR_tbs {κ : Type} (S : PS κ) (m : Nat) (v : Int) (ok : Bool) : (S.wokeR m v ok).tbs = S.tbs := by
  unfold PS.wokeR; split <;> rfl
theorem wokeS_tbs {κ : Type} (S : PS κ) (m : Nat) (ok : Bool) : (S.wokeS m ok).tbs = S.tbs := by
  unfold PS.wokeS; split <;> rfl
theorem trySend_tbs {κ : Type} (S : PS κ) (j : Nat) (v : Int) : (S.trySend j v).1.tbs = S.tbs := by
  unfold PS.trySend
  split
  · rfl
  · split
    · rfl
    · split
      · exact wokeR_tbs _ _ _ _
      · split <;> rfl
theorem tryRecv_tbs {κ : Type} (S : PS κ) (j : Nat) : (S.tryRecv j).1.tbs = S.tbs := by
  unfold PS.tryRecv
  split
  · rfl
  · split
    · exact wokeS_tbs _ _ _
    · rfl
theorem cleaned_snoc (ts : List TKT) (t : TKT) (h : t.fired = false) {c : CH} : c.cleaned (ts ++ [t]) = c.cleaned ts := by
  have e : ∀ k, isF (ts ++ [t]) k = isF ts k := fun k => by unfold isF; rw [List.any_append]; simp [h]
  unfold CH.cleaned
  simp only [e]
variable {κ : Type} {L : LawP κ} {q : Q16} {nowi : Option Nat} {kb : List Bx} {S : PS κ} {i : Nat} {x : Nat × TK} {g0 : Gh} {rb : Nat} {rest : Int} {w0 w : World} {F0 : Nat → Prop} {R : Asr}
theorem RelC.lens {j : Nat} {c : CH} {d : C16} (h : RelC q S j c d) : c.snd.length ≤ S.sts.length ∧ c.rcv.length ≤ S.sts.length := by
  constructor
  · rw [h.snd.1]
    have := len_sub_q (l' := List.range S.sts.length) h.nds (fun m hm => by
      obtain ⟨k, v, e⟩ := h.mem_snd hm
      exact List.mem_range.2 (List.getElem?_eq_some_iff.1 e).1)
    rwa [List.length_range] at this
  · rw [h.rcv.1]
    have := len_sub_q (l' := List.range S.sts.length) h.ndr (fun m hm => by
      obtain ⟨k, e⟩ := h.mem_rcv hm
      exact List.mem_range.2 (List.getElem?_eq_some_iff.1 e).1)
    rwa [List.length_range] at this
theorem pw_send [Lcl R] (S1 : At (PWA L rb (some i) rest kb S * R) w0 F0 w) {tb0 : Nat} (hi : S.sts[i]? = some .run) (ht : S.tbs[i]? = some tb0) {j : Nat} {d : C16} (hd : S.cs[j]? = some d) (v : Int) (g : FuncId) (cap : List Value) (k : κ) (hth : L.th k kb (.func (.func g) #[] cap.toArray)) :
    Rets Tryz.prog 17 #[pt tb0, pt d.cb, .int .i64 v, .func (.func g) #[] cap.toArray] w fun u w' => u = .int .i64 0 ∧ ∃ kb', (∀ b ∈ kb, b ∈ kb') ∧ At (PWA L rb (some i) rest kb' (S.send i j v k) * R) w0 F0 w' := by
  obtain ⟨q, hp, S2⟩ := pw_open S1
  obtain ⟨x, g0, hx, hg⟩ := hp.xs hi
  have hxt : x.1 = tb0 := by
    rw [hp.tbs, List.getElem?_map, hx] at ht
    exact Option.some.inj ht
  subst hxt
  obtain ⟨c, hc⟩ := hp.cget hd
  have r := hp.ch j c d hc hd
  have hnb : nowB S (some i) = some x.1 := by unfold nowB; exact ht
  have hm : mayE false (nowB S (some i)) x = 0 := by
    have := hp.said i x _ rfl hx hi
    rw [hnb]; unfold mayE; rw [if_neg (by simp), if_pos rfl, this]; rfl
  clear S1
  refine rets_of Tryz.func17 rfl Tryz.ntmps17 rfl rfl (by kernel_rfl) ?_
  ((apply vC_seq; apply vC_region)); (((iterate 2 (((apply vL_val); (case h => ((apply opw_box1); exact norm_eq rfl; (first | rfl | assumption)))))); (refine vE rfl ?_); apply vL_nil)); with_reducible apply seqP_normal
  (((iterate 2 (apply vC_seq)); apply vC_region))
  refine vL_gen (fun w' => At (Pt (w.alloc (.cells #[pt x.1] 34)).heap.size [.func (.func g) #[] cap.toArray] 36 * (Pt w.heap.size [pt x.1] 34 * (RtA rb (nowB S (some i)) rest S.line q.ts * (Big (q.cs.map (ChA_i rb)) * (TksA q.tks * (Bxl kb * (GhsA q.ghs * R))))))) w0 F0 w') S2.alloc.alloc ?_
  intro w1 S3
  generalize (w.alloc (.cells #[pt x.1] 34)).heap.size = thb at S3 ⊢
  generalize w.heap.size = tkb at S3 ⊢
  have S3c := S3.ac (show _ = ChA_i rb c * (Pt thb [.func (.func g) #[] cap.toArray] 36 * (Pt tkb [pt x.1] 34 * (TksA q.tks * Ot rb (some i) rest kb S q j R))) by rw [po_eq hc]; ac_rfl)
  have hcb := ch_blk_i S3c
  have hr0 := ch_right_i w1 c rb hcb
  rw [r.cb] at hr0
  rw [chL_i, r.cb] at hcb
  have hthb := S3.blk
  have htkb := S3.swap.ac (star_assoc _ _ _)
  have htkb := htkb.blk
  have S3r := (S3.ac (show _ = RtA rb (nowB S (some i)) rest S.line q.ts * (Pt thb [.func (.func g) #[] cap.toArray] 36 * (Pt tkb [pt x.1] 34 * (Big (q.cs.map (ChA_i rb)) * (TksA q.tks * (Bxl kb * (GhsA q.ghs * R)))))) by ac_rfl))
  clear S3c S2
  ((refine vE rfl ?_))
  refine vL_callF rfl (hr0) rfl ?_
  rintro _ _ ⟨rfl, rfl⟩
  ((refine vL_val (opv_not rfl) ?_); (refine vE rfl ?_); ((apply vL_wanted); exact rfl); ((apply vL_val); (case h => ((apply opv_loadb1); exact rfl; exact rfl; assumption; exact rfl))); ((apply vL_wanted); exact rfl); (refine vL_val (opv_eql_fnil rfl rfl) ?_); (refine vE rfl ?_); apply vL_nil; apply seqP_normal; ((apply vC_cond_false); exact rfl); apply vC_skip; apply seqP_normal; (iterate 2 (apply vC_seq)))
  refine vC_draw' (fun wf => Fr No w1 wf) ((Fr.refl No w1).drew) ?_
  (refine tk 0 rfl (by kernel_rfl) (by apply Fr.drew; exact Fr.refl _ _) (by intro wf hwf; haveI := From.mk hwf; (((apply opv_loadb1); exact rfl; exact rfl; infer_instance; exact rfl))) ?_)
  (refine tkE 1 rfl (by kernel_rfl) (by apply Fr.drew; exact Fr.refl _ _) rfl ?_)
  (refine tkE 2 rfl (by kernel_rfl) (by apply Fr.drew; exact Fr.refl _ _) rfl ?_)
  (refine tk 3 rfl (by kernel_rfl) (by apply Fr.drew; exact Fr.refl _ _) (by intro wf hwf; haveI := From.mk hwf; (((apply opv_fieldAddr); exact rfl))) ?_)
  (refine tk 4 rfl (by kernel_rfl) (by apply Fr.drew; exact Fr.refl _ _) (by intro wf hwf; haveI := From.mk hwf; (((apply opv_loadb1); exact rfl; exact rfl; infer_instance; exact rfl))) ?_)
  (refine tkc 5 rfl (by kernel_rfl) (by (apply Fr.drew; exact Fr.refl _ _)) rfl (ch_may (S3r.frN (by (apply Fr.drew; exact Fr.refl _ _))) hx) rfl ?_)
  rintro _ _ ⟨rfl, rfl⟩
  (refine tkE 6 rfl (by kernel_rfl) (by apply Fr.drew; exact Fr.refl _ _) rfl ?_)
  refine vA_done (by kernel_rfl) (by (first | exact trivial | ((apply Fr.drew; exact Fr.refl _ _); done))) ?_
  (apply seqP_normal; apply vC_seq; apply vC_region; (iterate 2 ((refine vE rfl ?_))); apply vL_nil; apply seqP_normal; ((apply vC_cond_false); exact rfl); apply vC_skip; apply seqP_normal; apply vC_seq; apply vC_region; ((apply vL_val); (case h => (apply opw_alloc))); ((apply vL_skip); (case h => ((apply ops_store1); exact norm_eq rfl; exact norm_eq rfl; (first | rfl | assumption); infer_instance; (first | decide | exact of_decide_eq_true rfl | (simp; done))))); apply vL_nil; apply seqP_normal; (iterate 2 (apply vC_seq)); apply vC_region; ((apply vL_val); (case h => ((apply opv_loadb1); exact rfl; exact rfl; infer_instance; exact rfl))); (refine vL_val (opv_makeFunc rfl) ?_))
  refine vL_gen (fun w' => At (Pt w1.drew.heap.size [.bool false] 4 * (RtA rb (nowB S (some i)) rest S.line q.ts * (Pt thb [.func (.func g) #[] cap.toArray] 36 * (Pt tkb [pt x.1] 34 * (Big (q.cs.map (ChA_i rb)) * (TksA q.tks * (Bxl kb * (GhsA q.ghs * R)))))))) w0 F0 w') ?_ ?_
  · exact (S3r.drew.alloc (cs := [.bool false]) (T := 4)).set
  intro w2 S4
  generalize w1.drew.heap.size = tb at S4 ⊢
  clear S3 S3r hcb hr0 hthb htkb
  have S4 := S4.ac (show _ = RtA rb (nowB S (some i)) rest S.line q.ts * (GhA g0 * (Pt tb [.bool false] 4 * (Pt thb [.func (.func g) #[] cap.toArray] 36 * (Pt tkb [pt x.1] 34 * (Big (q.cs.map (ChA_i rb)) * (TksA q.tks * (Bxl kb * (GhsA (q.ghs.eraseIdx i) * R)))))))) by rw [ghs_pick hg]; ac_rfl)
  refine vL_callF rfl (parkA S4 hx 90 #[pt thb, pt tb] hm) rfl ?_
  rintro _ w3 ⟨rfl, S5⟩
  have P := prel_parkS hp hx hg hi (thb := thb) (tkb := tkb) (tb := tb) hth
  have S6 := pw_shut (R := R) (rb := rb) (rest := rest) P ((S5.ac (show _ = GhA g0 * (RtA rb (nowB S (some i)) rest S.line (q.ts.set i (parkW x 90 #[pt thb, pt tb])) * (Pt tb [.bool false] 4 * (Pt thb [.func (.func g) #[] cap.toArray] 36 * (Pt tkb [pt x.1] 34 * (Big (q.cs.map (ChA_i rb)) * (TksA q.tks * (Bxl kb * (GhsA (q.ghs.eraseIdx i) * R)))))))) by unfold parkW; ac_rfl)).drop.ac (by
    rw [bxl_cons, bxl_cons, ghs_put _ (List.getElem?_eq_some_iff.1 hg).1, ghA_s]
    show _ = RtA rb (nowB S (some i)) rest S.line (q.ts.set i (parkW x 90 #[pt thb, pt tb])) * _
    ac_rfl))
  clear P S4 S5
  generalize hkb1 : ((thb, [.func (.func g) #[] cap.toArray], 36) :: (tkb, [pt x.1], 34) :: kb : List Bx) = kb1 at S6
  have hk1 : ∀ b ∈ kb, b ∈ kb1 := fun b hb => by rw [← hkb1]; exact List.mem_cons_of_mem _ (List.mem_cons_of_mem _ hb)
  have hk2 : (tkb, [pt x.1], 34) ∈ kb1 := by rw [← hkb1]; exact List.mem_cons_of_mem _ List.mem_cons_self
  have ets := trySend_set (S := S) (i := i) (j := j) (s := .mS k tkb tb) (v := v) hi rfl rfl
  have hts := pw_trysend S6 (j := j) (d := d) hd v
  rw [ets] at hts
  have hk := trySend_keep (v := v) (j := j) hi rfl
  have hno := trySend_no (v := v) (j := j) hd
  have etb := trySend_tbs S j v
  have eSend : S.send i j v k = if (S.trySend j v).2.2 then ⟨(S.trySend j v).1.sts.set i (.rdyS k (S.trySend j v).2.1), (S.trySend j v).1.tbs, (S.trySend j v).1.cs, readyL (S.trySend j v).1.line i⟩ else ⟨S.sts.set i (.wS k j v), S.tbs, S.cs.set j { d with snd := d.snd ++ [i] }, S.line⟩ := by
    unfold PS.send; simp only [hd]
  rw [eSend]
  clear eSend ets S6
  generalize S.trySend j v = T at hts hk hno etb ⊢
  obtain ⟨T, ok, can⟩ := T
  simp only [] at hts hk hno etb ⊢
  ((iterate 17 (first | with_reducible apply vC_seq | with_reducible apply vC_region | with_reducible apply seqP_normal | with_reducible apply vC_skip | ((with_reducible apply vC_cond_false); exact rfl) | (refine vE rfl ?_) | with_reducible apply vL_nil)))
  refine vL_callF rfl (hts) rfl ?_
  rintro _ w4 ⟨rfl, kb2, hk3, S7⟩
  obtain ⟨q2, hp2, S8⟩ := pw_open S7
  have hi2 : (T.setSt i (.mS k tkb tb)).sts[i]? = some (.mS k tkb tb) := set_get _ hk
  obtain ⟨x2, g2, hx2, hg2⟩ := hp2.xs hi2
  obtain ⟨⟨n, ok0, ⟨thb', tkb', tb', ff, e1, e2, e3, e4, e5⟩, thb2, e6⟩, hpk, hov⟩ := hp2.tk i x2 g2 _ hx2 hg2 hi2
  subst e6
  cases e1
  have hxx : x2.1 = x.1 := by
    have h1 : (T.setSt i (.mS k tkb tb)).tbs[i]? = some x2.1 := by rw [hp2.tbs, List.getElem?_map, hx2]; rfl
    have h2 : T.tbs[i]? = some x2.1 := h1
    rw [etb, ht] at h2
    exact (Option.some.inj h2).symm
  have S9 := S8.ac (show _ = Pt tb [.bool ok0] 4 * (RtA rb (nowB (T.setSt i (.mS k tkb tb)) (some i)) rest (T.setSt i (.mS k tkb tb)).line q2.ts * (Big (q2.cs.map (ChA_i rb)) * (TksA q2.tks * (Bxl kb2 * (GhsA (q2.ghs.eraseIdx i) * R))))) by rw [ghs_pick hg2, ghA_s]; ac_rfl)
  have htb := S9.blk
  have htk := (S8.ac (show _ = Bxl kb2 * (RtA rb (nowB (T.setSt i (.mS k tkb tb)) (some i)) rest (T.setSt i (.mS k tkb tb)).line q2.ts * (Big (q2.cs.map (ChA_i rb)) * (TksA q2.tks * (GhsA q2.ghs * R)))) by ac_rfl)).bx e5
  cases can with
  | true =>
    rw [if_pos rfl]
    rw [hxx] at htk
    ((iterate 21 (first | with_reducible apply vC_seq | with_reducible apply vC_region | with_reducible apply seqP_normal | ((with_reducible apply vC_cond_true); exact rfl) | (refine vE rfl ?_) | with_reducible apply vL_nil | ((with_reducible apply vL_skip); (case h => ((with_reducible apply ops_store1); exact norm_eq rfl; exact norm_eq rfl; (first | rfl | assumption); assumption; (first | decide | exact of_decide_eq_true rfl | (simp; done))))))))
    refine vL_gen (fun w' => At (Pt tb [.bool ok] 4 * (RtA rb (nowB (T.setSt i (.mS k tkb tb)) (some i)) rest (T.setSt i (.mS k tkb tb)).line q2.ts * (Big (q2.cs.map (ChA_i rb)) * (TksA q2.tks * (Bxl kb2 * (GhsA (q2.ghs.eraseIdx i) * R)))))) w0 F0 w') S9.set ?_
    intro w5 S10
    have hl2 := hp2.line_len
    have hw := wakeA (S10.ac (show _ = RtA rb (nowB (T.setSt i (.mS k tkb tb)) (some i)) rest (T.setSt i (.mS k tkb tb)).line q2.ts * (Pt tb [.bool ok] 4 * (Big (q2.cs.map (ChA_i rb)) * (TksA q2.tks * (Bxl kb2 * (GhsA (q2.ghs.eraseIdx i) * R))))) by ac_rfl)) hx2 0 (by omega) (by rw [hpk]; rfl)
    rw [show pt x2.1 = pt x.1 by rw [hxx]] at hw
    have htk5 := (S10.ac (show _ = Bxl kb2 * (Pt tb [.bool ok] 4 * (RtA rb (nowB (T.setSt i (.mS k tkb tb)) (some i)) rest (T.setSt i (.mS k tkb tb)).line q2.ts * (Big (q2.cs.map (ChA_i rb)) * (TksA q2.tks * (GhsA (q2.ghs.eraseIdx i) * R))))) by ac_rfl)).bx e5
    rw [hxx] at htk5
    (((apply vL_val); (case h => ((apply opv_loadb1); exact rfl; exact rfl; assumption; exact rfl))))
    refine vL_callF rfl (hw) rfl ?_
    rintro _ w6 ⟨rfl, fb, yb, S11⟩
    have P := prel_ownS hp2 hx2 hi2 hg2 ok fb yb
    have S12 := pw_shut (R := R) (rb := rb) (rest := rest) P (S11.ac (by
      rw [ghs_put _ (List.getElem?_eq_some_iff.1 hg2).1, ghA_s]
      unfold wokenK
      rw [bxl_cons, bxl_cons]
      show _ = RtA rb (nowB (T.setSt i (.mS k tkb tb)) (some i)) rest (readyL (T.setSt i (.mS k tkb tb)).line i) (q2.ts.set i (woken x2 fb yb)) * (Big (q2.cs.map (ChA_i rb)) * _)
      unfold woken
      ac_rfl))
    ((refine vE rfl ?_); apply vL_nil; apply seqP_normal; apply vC_ret; apply seqP_ret)
    (apply ret1; (case h1 => (exact norm_eq rfl)))
    refine ⟨rfl, wokenK x2 fb yb kb2, fun b hb => List.mem_cons_of_mem _ (List.mem_cons_of_mem _ (hk3 b (hk1 b hb))), ?_⟩
    have e : (T.setSt i (.mS k tkb tb)).sts.set i (.rdyS k ok) = T.sts.set i (.rdyS k ok) := List.set_set ..
    rw [e] at S12
    exact S12
  | false =>
    obtain ⟨rfl, hcl, hrc, hbf⟩ := hno rfl
    rw [if_neg (by simp)]
    obtain ⟨c2, hc2⟩ := hp2.cget (j := j) (d := d) hd
    have r2 := hp2.ch j c2 d hc2 hd
    obtain ⟨k1, k2, k3⟩ := hp2.ent hc2 hd
    obtain ⟨l1, l2⟩ := r2.lens
    have hfew := hp2.few
    rw [hxx] at htk
    clear S9
    ((iterate 19 (first | with_reducible apply vC_seq | with_reducible apply vC_region | with_reducible apply seqP_normal | with_reducible apply vC_skip | ((with_reducible apply vC_cond_false); exact rfl) | (refine vE rfl ?_) | with_reducible apply vL_nil)); (refine vL_val (opv_makeFunc rfl) ?_))
    refine vL_callF rfl (tk_new (S8.ac (show _ = TksA q2.tks * (ChA_i rb c2 * Ot rb (some i) rest kb2 (T.setSt i (.mS k tkb tb)) q2 j R) by rw [po_eq hc2]; ac_rfl)) 92 #[pt tkb]) rfl ?_
    rintro _ w5 ⟨b, rfl, S10⟩
    have htn := tks_tn S10
    have hcl2 : c2.cleaned (q2.tks ++ [⟨b, ⟨.func (.func 92) #[] #[pt tkb], rfl⟩, false⟩]) = c2 := by rw [cleaned_snoc _ _ rfl]; exact k1
    have hws := ch_waitsend_i (S10.ac (show _ = ChA_i rb c2 * (TksA (q2.tks ++ [⟨b, ⟨.func (.func 92) #[] #[pt tkb], rfl⟩, false⟩]) * Ot rb (some i) rest kb2 (T.setSt i (.mS k tkb tb)) q2 j R) by ac_rfl))
      (fun y hy => by obtain ⟨t, ht, e⟩ := k2 y hy; exact ⟨t, List.mem_append_left _ ht, e⟩) (fun y hy => by obtain ⟨t, ht, e⟩ := k3 y hy; exact ⟨t, List.mem_append_left _ ht, e⟩) (by omega) v (t := ⟨b, ⟨.func (.func 92) #[] #[pt tkb], rfl⟩, false⟩) (List.mem_append_right _ List.mem_cons_self) 93 92 #[pt tb] #[pt tkb] rfl
    rw [hcl2, r2.cb] at hws
    have hno : noSend c2 ⟨b, ⟨.func (.func 92) #[] #[pt tkb], rfl⟩, false⟩ = false := by
      have hz := r2.rcv
      rw [hrc] at hz
      have : c2.rcv = [] := List.eq_nil_of_length_eq_zero hz.1
      unfold noSend
      rw [r2.closed, hcl, this, r2.buf, r2.size, decide_eq_false (by omega)]
      rfl
    rw [hno] at hws
    clear S8 S10
    ((refine vL_val (opv_makeFunc rfl) ?_))
    refine vL_callF rfl (hws) rfl ?_
    rintro _ w6 (⟨h1, _, _⟩ | ⟨_, rfl, S11⟩)
    · cases h1
    have P := prel_waitS hp2 hx2 hi2 hg2 hc2 hd v (b := b) (e := ⟨b, v, ⟨.func (.func 93) #[] #[pt tb], rfl⟩⟩) ⟨rfl, rfl, rfl⟩ (fv := ⟨.func (.func 92) #[] #[pt tkb], rfl⟩) rfl htn
    have S12 := pw_shut (R := R) (rb := rb) (rest := rest) P (S11.ac (by
      unfold Ot
      rw [ghs_put _ (List.getElem?_eq_some_iff.1 hg2).1, ghA_s, ghs_pick hg2, ghA_s, big_map_put _ _ (List.getElem?_eq_some_iff.1 hc2).1]
      show _ = RtA rb (nowB (T.setSt i (.mS k tkb tb)) (some i)) rest (T.setSt i (.mS k tkb tb)).line q2.ts * _
      ac_rfl))
    ((refine vE rfl ?_); apply vL_nil; apply seqP_normal; apply vC_ret)
    (apply ret1; (case h1 => (exact norm_eq rfl)))
    refine ⟨rfl, kb2, fun b hb => hk3 b (hk1 b hb), ?_⟩
    have e : (T.setSt i (.mS k tkb tb)).sts.set i (.wS k j v) = T.sts.set i (.wS k j v) := List.set_set ..
    rw [e] at S12
    exact S12
end
end Go.Proofs.YtbaidcnalkdhgaaGreat
set_option maxRecDepth 100000
namespace Go.Proofs.YtbaidcnalkdhgaaGreat
open Go Go.Eng
section
variable {κ : Type}
def PS.recv (S : PS κ) (i j : Nat) (k : κ) : PS κ :=
  let T := S.tryRecv j
  if T.2.2.2 then ⟨T.1.sts.set i (.rdyR k T.2.1 T.2.2.1), T.1.tbs, T.1.cs, readyL T.1.line i⟩
  else match S.cs[j]? with
    | none => S
    | some d => ⟨S.sts.set i (.wR k j), S.tbs, S.cs.set j { d with rcv := d.rcv ++ [i] }, S.line⟩
variable {L : LawP κ} {q : Q16} {nowi : Option Nat} {kb : List Bx} {S : PS κ} {i : Nat} {x : Nat × TK} {g0 : Gh} {rb : Nat} {rest : Int} {w0 w : World} {F0 : Nat → Prop} {R : Asr}
theorem pw_recv [Lcl R] (S1 : At (PWA L rb (some i) rest kb S * R) w0 F0 w) {tb0 : Nat} (hi : S.sts[i]? = some .run) (ht : S.tbs[i]? = some tb0) {j : Nat} {d : C16} (hd : S.cs[j]? = some d) (g : FuncId) (cap : List Value) (k : κ) (hth : L.tr k kb (.func (.func g) #[] cap.toArray)) :
    Rets Tryz.prog 20 #[pt tb0, pt d.cb, .func (.func g) #[] cap.toArray] w fun u w' => u = .int .i64 0 ∧ ∃ kb', (∀ b ∈ kb, b ∈ kb') ∧ At (PWA L rb (some i) rest kb' (S.recv i j k) * R) w0 F0 w' := by
  obtain ⟨q, hp, S2⟩ := pw_open S1
  obtain ⟨x, g0, hx, hg⟩ := hp.xs hi
  have hxt : x.1 = tb0 := by
    rw [hp.tbs, List.getElem?_map, hx] at ht
    exact Option.some.inj ht
  subst hxt
  obtain ⟨c, hc⟩ := hp.cget hd
  have r := hp.ch j c d hc hd
  have hnb : nowB S (some i) = some x.1 := by unfold nowB; exact ht
  have hm : mayE false (nowB S (some i)) x = 0 := by
    have := hp.said i x _ rfl hx hi
    rw [hnb]; unfold mayE; rw [if_neg (by simp), if_pos rfl, this]; rfl
  clear S1
  refine rets_of Tryz.func20 rfl Tryz.ntmps20 rfl rfl (by kernel_rfl) ?_
  ((apply vC_seq; apply vC_region)); (((iterate 2 (((apply vL_val); (case h => ((apply opw_box1); exact norm_eq rfl; (first | rfl | assumption)))))); (refine vE rfl ?_); apply vL_nil)); with_reducible apply seqP_normal
  (((iterate 2 (apply vC_seq)); apply vC_region))
  refine vL_gen (fun w' => At (Pt (w.alloc (.cells #[pt x.1] 34)).heap.size [.func (.func g) #[] cap.toArray] 39 * (Pt w.heap.size [pt x.1] 34 * (RtA rb (nowB S (some i)) rest S.line q.ts * (Big (q.cs.map (ChA_i rb)) * (TksA q.tks * (Bxl kb * (GhsA q.ghs * R))))))) w0 F0 w') S2.alloc.alloc ?_
  intro w1 S3
  generalize (w.alloc (.cells #[pt x.1] 34)).heap.size = thb at S3 ⊢
  generalize w.heap.size = tkb at S3 ⊢
  have S3c := S3.ac (show _ = ChA_i rb c * (Pt thb [.func (.func g) #[] cap.toArray] 39 * (Pt tkb [pt x.1] 34 * (TksA q.tks * Ot rb (some i) rest kb S q j R))) by rw [po_eq hc]; ac_rfl)
  have hcb := ch_blk_i S3c
  have hr0 := ch_right_i w1 c rb hcb
  rw [r.cb] at hr0
  rw [chL_i, r.cb] at hcb
  have hthb := S3.blk
  have htkb := S3.swap.ac (star_assoc _ _ _)
  have htkb := htkb.blk
  have S3r := (S3.ac (show _ = RtA rb (nowB S (some i)) rest S.line q.ts * (Pt thb [.func (.func g) #[] cap.toArray] 39 * (Pt tkb [pt x.1] 34 * (Big (q.cs.map (ChA_i rb)) * (TksA q.tks * (Bxl kb * (GhsA q.ghs * R)))))) by ac_rfl))
  clear S3c S2
  ((refine vE rfl ?_))
  refine vL_callF rfl (hr0) rfl ?_
  rintro _ _ ⟨rfl, rfl⟩
  ((refine vL_val (opv_not rfl) ?_); (refine vE rfl ?_); ((apply vL_wanted); exact rfl); ((apply vL_val); (case h => ((apply opv_loadb1); exact rfl; exact rfl; assumption; exact rfl))); ((apply vL_wanted); exact rfl); (refine vL_val (opv_eql_fnil rfl rfl) ?_); (refine vE rfl ?_); apply vL_nil; apply seqP_normal; ((apply vC_cond_false); exact rfl); apply vC_skip; apply seqP_normal; (iterate 2 (apply vC_seq)))
  refine vC_draw' (fun wf => Fr No w1 wf) ((Fr.refl No w1).drew) ?_
  (refine tk 0 rfl (by kernel_rfl) (by apply Fr.drew; exact Fr.refl _ _) (by intro wf hwf; haveI := From.mk hwf; (((apply opv_loadb1); exact rfl; exact rfl; infer_instance; exact rfl))) ?_)
  (refine tkE 1 rfl (by kernel_rfl) (by apply Fr.drew; exact Fr.refl _ _) rfl ?_)
  (refine tkE 2 rfl (by kernel_rfl) (by apply Fr.drew; exact Fr.refl _ _) rfl ?_)
  (refine tk 3 rfl (by kernel_rfl) (by apply Fr.drew; exact Fr.refl _ _) (by intro wf hwf; haveI := From.mk hwf; (((apply opv_fieldAddr); exact rfl))) ?_)
  (refine tk 4 rfl (by kernel_rfl) (by apply Fr.drew; exact Fr.refl _ _) (by intro wf hwf; haveI := From.mk hwf; (((apply opv_loadb1); exact rfl; exact rfl; infer_instance; exact rfl))) ?_)
  (refine tkc 5 rfl (by kernel_rfl) (by (apply Fr.drew; exact Fr.refl _ _)) rfl (ch_may (S3r.frN (by (apply Fr.drew; exact Fr.refl _ _))) hx) rfl ?_)
  rintro _ _ ⟨rfl, rfl⟩
  (refine tkE 6 rfl (by kernel_rfl) (by apply Fr.drew; exact Fr.refl _ _) rfl ?_)
  refine vA_done (by kernel_rfl) (by (first | exact trivial | ((apply Fr.drew; exact Fr.refl _ _); done))) ?_
  (apply seqP_normal; apply vC_seq; apply vC_region; (iterate 2 ((refine vE rfl ?_))); apply vL_nil; apply seqP_normal; ((apply vC_cond_false); exact rfl); apply vC_skip; apply seqP_normal; apply vC_seq; apply vC_region; ((apply vL_val); (case h => (apply opw_alloc))); apply vL_nil; apply seqP_normal; apply vC_seq; apply vC_region; ((apply vL_val); (case h => (apply opw_alloc))); ((apply vL_skip); (case h => ((apply ops_store1); exact norm_eq rfl; exact norm_eq rfl; (first | rfl | assumption); infer_instance; (first | decide | exact of_decide_eq_true rfl | (simp; done))))); apply vL_nil; apply seqP_normal; (iterate 2 (apply vC_seq)); apply vC_region; ((apply vL_val); (case h => ((apply opv_loadb1); exact rfl; exact rfl; infer_instance; exact rfl))); (refine vL_val (opv_makeFunc rfl) ?_))
  refine vL_gen (fun w' => At (Pt (w1.drew.alloc (.cells #[.int .i64 0] 3)).heap.size [.bool false] 4 * (Pt w1.drew.heap.size [.int .i64 0] 3 * (RtA rb (nowB S (some i)) rest S.line q.ts * (Pt thb [.func (.func g) #[] cap.toArray] 39 * (Pt tkb [pt x.1] 34 * (Big (q.cs.map (ChA_i rb)) * (TksA q.tks * (Bxl kb * (GhsA q.ghs * R))))))))) w0 F0 w') ?_ ?_
  · exact ((S3r.drew.alloc (cs := [.int .i64 0]) (T := 3)).alloc (cs := [.bool false]) (T := 4)).set
  intro w2 S4
  generalize (w1.drew.alloc (.cells #[.int .i64 0] 3)).heap.size = tb at S4 ⊢
  generalize w1.drew.heap.size = vx at S4 ⊢
  clear S3 S3r hcb hr0 hthb htkb
  have S4 := S4.ac (show _ = RtA rb (nowB S (some i)) rest S.line q.ts * (GhA g0 * (Pt tb [.bool false] 4 * (Pt vx [.int .i64 0] 3 * (Pt thb [.func (.func g) #[] cap.toArray] 39 * (Pt tkb [pt x.1] 34 * (Big (q.cs.map (ChA_i rb)) * (TksA q.tks * (Bxl kb * (GhsA (q.ghs.eraseIdx i) * R))))))))) by rw [ghs_pick hg]; ac_rfl)
  refine vL_callF rfl (parkA S4 hx 94 #[pt thb, pt vx, pt tb] hm) rfl ?_
  rintro _ w3 ⟨rfl, S5⟩
  have P := prel_parkR hp hx hg hi (thb := thb) (tkb := tkb) (vx := vx) (tb := tb) hth
  have S6 := pw_shut (R := R) (rb := rb) (rest := rest) P ((S5.ac (show _ = GhA g0 * (RtA rb (nowB S (some i)) rest S.line (q.ts.set i (parkW x 94 #[pt thb, pt vx, pt tb])) * (Pt tb [.bool false] 4 * (Pt vx [.int .i64 0] 3 * (Pt thb [.func (.func g) #[] cap.toArray] 39 * (Pt tkb [pt x.1] 34 * (Big (q.cs.map (ChA_i rb)) * (TksA q.tks * (Bxl kb * (GhsA (q.ghs.eraseIdx i) * R))))))))) by unfold parkW; ac_rfl)).drop.ac (by
    rw [bxl_cons, bxl_cons, ghs_put _ (List.getElem?_eq_some_iff.1 hg).1, ghA_r]
    show _ = RtA rb (nowB S (some i)) rest S.line (q.ts.set i (parkW x 94 #[pt thb, pt vx, pt tb])) * _
    ac_rfl))
  clear P S4 S5
  generalize hkb1 : ((thb, [.func (.func g) #[] cap.toArray], 39) :: (tkb, [pt x.1], 34) :: kb : List Bx) = kb1 at S6
  have hk1 : ∀ b ∈ kb, b ∈ kb1 := fun b hb => by rw [← hkb1]; exact List.mem_cons_of_mem _ (List.mem_cons_of_mem _ hb)
  have hk2 : (tkb, [pt x.1], 34) ∈ kb1 := by rw [← hkb1]; exact List.mem_cons_of_mem _ List.mem_cons_self
  have ets := tryRecv_set (S := S) (i := i) (j := j) (s := .mR k tkb vx tb) hi rfl rfl
  have hts := pw_tryrecv S6 (j := j) (d := d) hd
  rw [ets] at hts
  have hk := tryRecv_keep (j := j) hi rfl
  have hno := tryRecv_no (j := j) hd
  have etb := tryRecv_tbs S j
  have eSend : S.recv i j k = if (S.tryRecv j).2.2.2 then ⟨(S.tryRecv j).1.sts.set i (.rdyR k (S.tryRecv j).2.1 (S.tryRecv j).2.2.1), (S.tryRecv j).1.tbs, (S.tryRecv j).1.cs, readyL (S.tryRecv j).1.line i⟩ else ⟨S.sts.set i (.wR k j), S.tbs, S.cs.set j { d with rcv := d.rcv ++ [i] }, S.line⟩ := by
    unfold PS.recv; simp only [hd]
  rw [eSend]
  clear eSend ets S6
  generalize S.tryRecv j = T at hts hk hno etb ⊢
  obtain ⟨T, v, ok, can⟩ := T
  simp only [] at hts hk hno etb ⊢
  ((iterate 16 (first | with_reducible apply vC_seq | with_reducible apply vC_region | with_reducible apply seqP_normal | with_reducible apply vC_skip | ((with_reducible apply vC_cond_false); exact rfl) | (refine vE rfl ?_) | with_reducible apply vL_nil)))
  refine vL_callF rfl (hts) rfl ?_
  rintro _ w4 ⟨rfl, kb2, hk3, S7⟩
  obtain ⟨q2, hp2, S8⟩ := pw_open S7
  have hi2 : (T.setSt i (.mR k tkb vx tb)).sts[i]? = some (.mR k tkb vx tb) := set_get _ hk
  obtain ⟨x2, g2, hx2, hg2⟩ := hp2.xs hi2
  obtain ⟨⟨n, v0, ok0, ⟨thb', tkb', vx', tb', ff, e1, e2, e3, e4, e5⟩, thb2, e6⟩, hpk, hov⟩ := hp2.tk i x2 g2 _ hx2 hg2 hi2
  subst e6
  cases e1
  have hxx : x2.1 = x.1 := by
    have h1 : (T.setSt i (.mR k tkb vx tb)).tbs[i]? = some x2.1 := by rw [hp2.tbs, List.getElem?_map, hx2]; rfl
    have h2 : T.tbs[i]? = some x2.1 := h1
    rw [etb, ht] at h2
    exact (Option.some.inj h2).symm
  have S9 := S8.ac (show _ = Pt vx [.int .i64 v0] 3 * (Pt tb [.bool ok0] 4 * (RtA rb (nowB (T.setSt i (.mR k tkb vx tb)) (some i)) rest (T.setSt i (.mR k tkb vx tb)).line q2.ts * (Big (q2.cs.map (ChA_i rb)) * (TksA q2.tks * (Bxl kb2 * (GhsA (q2.ghs.eraseIdx i) * R)))))) by rw [ghs_pick hg2, ghA_r]; ac_rfl)
  have hvx := S9.blk
  have htb := (S9.ac (show _ = Pt tb [.bool ok0] 4 * (Pt vx [.int .i64 v0] 3 * (RtA rb (nowB (T.setSt i (.mR k tkb vx tb)) (some i)) rest (T.setSt i (.mR k tkb vx tb)).line q2.ts * (Big (q2.cs.map (ChA_i rb)) * (TksA q2.tks * (Bxl kb2 * (GhsA (q2.ghs.eraseIdx i) * R)))))) by ac_rfl)).blk
  have htk := (S8.ac (show _ = Bxl kb2 * (RtA rb (nowB (T.setSt i (.mR k tkb vx tb)) (some i)) rest (T.setSt i (.mR k tkb vx tb)).line q2.ts * (Big (q2.cs.map (ChA_i rb)) * (TksA q2.tks * (GhsA q2.ghs * R)))) by ac_rfl)).bx e5
  cases can with
  | true =>
    rw [if_pos rfl]
    rw [hxx] at htk
    haveI n1 : NeB vx tb := ⟨Blk.ne_type hvx htb (by decide)⟩
    haveI n2 : NeB tb vx := ⟨Blk.ne_type htb hvx (by decide)⟩
    ((iterate 19 (first | with_reducible apply vC_seq | with_reducible apply vC_region | with_reducible apply seqP_normal | ((with_reducible apply vC_cond_true); exact rfl) | (refine vE rfl ?_) | with_reducible apply vL_nil)); ((apply vL_skip); (case h => ((apply ops_store1); exact norm_eq rfl; exact norm_eq rfl; (first | rfl | assumption); assumption; (first | decide | exact of_decide_eq_true rfl | (simp; done))))); ((apply vL_skip); (case h => ((apply ops_store1); exact norm_eq rfl; exact norm_eq rfl; (first | rfl | assumption); infer_instance; (first | decide | exact of_decide_eq_true rfl | (simp; done))))); apply vL_nil; apply seqP_normal; apply vC_seq; apply vC_region)
    refine vL_gen (fun w' => At (Pt tb [.bool ok] 4 * (Pt vx [.int .i64 v] 3 * (RtA rb (nowB (T.setSt i (.mR k tkb vx tb)) (some i)) rest (T.setSt i (.mR k tkb vx tb)).line q2.ts * (Big (q2.cs.map (ChA_i rb)) * (TksA q2.tks * (Bxl kb2 * (GhsA (q2.ghs.eraseIdx i) * R))))))) w0 F0 w') ((S9.set (cs' := [.int .i64 v])).ac (show _ = Pt tb [.bool ok0] 4 * (Pt vx [.int .i64 v] 3 * (RtA rb (nowB (T.setSt i (.mR k tkb vx tb)) (some i)) rest (T.setSt i (.mR k tkb vx tb)).line q2.ts * (Big (q2.cs.map (ChA_i rb)) * (TksA q2.tks * (Bxl kb2 * (GhsA (q2.ghs.eraseIdx i) * R)))))) by ac_rfl)).set ?_
    intro w5 S10
    have hl2 := hp2.line_len
    have hw := wakeA (S10.ac (show _ = RtA rb (nowB (T.setSt i (.mR k tkb vx tb)) (some i)) rest (T.setSt i (.mR k tkb vx tb)).line q2.ts * (Pt tb [.bool ok] 4 * (Pt vx [.int .i64 v] 3 * (Big (q2.cs.map (ChA_i rb)) * (TksA q2.tks * (Bxl kb2 * (GhsA (q2.ghs.eraseIdx i) * R)))))) by ac_rfl)) hx2 0 (by omega) (by rw [hpk]; rfl)
    rw [show pt x2.1 = pt x.1 by rw [hxx]] at hw
    have htk5 := (S10.ac (show _ = Bxl kb2 * (Pt tb [.bool ok] 4 * (Pt vx [.int .i64 v] 3 * (RtA rb (nowB (T.setSt i (.mR k tkb vx tb)) (some i)) rest (T.setSt i (.mR k tkb vx tb)).line q2.ts * (Big (q2.cs.map (ChA_i rb)) * (TksA q2.tks * (GhsA (q2.ghs.eraseIdx i) * R)))))) by ac_rfl)).bx e5
    rw [hxx] at htk5
    (((apply vL_val); (case h => ((apply opv_loadb1); exact rfl; exact rfl; assumption; exact rfl))))
    refine vL_callF rfl (hw) rfl ?_
    rintro _ w6 ⟨rfl, fb, yb, S11⟩
    have P := prel_ownR hp2 hx2 hi2 hg2 v ok fb yb
    have S12 := pw_shut (R := R) (rb := rb) (rest := rest) P (S11.ac (by
      rw [ghs_put _ (List.getElem?_eq_some_iff.1 hg2).1, ghA_r]
      unfold wokenK
      rw [bxl_cons, bxl_cons]
      show _ = RtA rb (nowB (T.setSt i (.mR k tkb vx tb)) (some i)) rest (readyL (T.setSt i (.mR k tkb vx tb)).line i) (q2.ts.set i (woken x2 fb yb)) * (Big (q2.cs.map (ChA_i rb)) * _)
      unfold woken
      ac_rfl))
    ((refine vE rfl ?_); apply vL_nil; apply seqP_normal; apply vC_ret; apply seqP_ret)
    (apply ret1; (case h1 => (exact norm_eq rfl)))
    refine ⟨rfl, wokenK x2 fb yb kb2, fun b hb => List.mem_cons_of_mem _ (List.mem_cons_of_mem _ (hk3 b (hk1 b hb))), ?_⟩
    have e : (T.setSt i (.mR k tkb vx tb)).sts.set i (.rdyR k v ok) = T.sts.set i (.rdyR k v ok) := List.set_set ..
    rw [e] at S12
    exact S12
  | false =>
    obtain ⟨rfl, hcl, hsn, hbf⟩ := hno rfl
    rw [if_neg (by simp)]
    obtain ⟨c2, hc2⟩ := hp2.cget (j := j) (d := d) hd
    have r2 := hp2.ch j c2 d hc2 hd
    obtain ⟨k1, k2, k3⟩ := hp2.ent hc2 hd
    obtain ⟨l1, l2⟩ := r2.lens
    have hfew := hp2.few
    rw [hxx] at htk
    clear S9
    ((iterate 20 (first | with_reducible apply vC_seq | with_reducible apply vC_region | with_reducible apply seqP_normal | with_reducible apply vC_skip | ((with_reducible apply vC_cond_false); exact rfl) | (refine vE rfl ?_) | with_reducible apply vL_nil)); (refine vL_val (opv_makeFunc rfl) ?_))
    refine vL_callF rfl (tk_new (S8.ac (show _ = TksA q2.tks * (ChA_i rb c2 * Ot rb (some i) rest kb2 (T.setSt i (.mR k tkb vx tb)) q2 j R) by rw [po_eq hc2]; ac_rfl)) 95 #[pt tkb]) rfl ?_
    rintro _ w5 ⟨b, rfl, S10⟩
    have htn := tks_tn S10
    have hcl2 : c2.cleaned (q2.tks ++ [⟨b, ⟨.func (.func 95) #[] #[pt tkb], rfl⟩, false⟩]) = c2 := by rw [cleaned_snoc _ _ rfl]; exact k1
    have hws := ch_waitrecv_i (S10.ac (show _ = ChA_i rb c2 * (TksA (q2.tks ++ [⟨b, ⟨.func (.func 95) #[] #[pt tkb], rfl⟩, false⟩]) * Ot rb (some i) rest kb2 (T.setSt i (.mR k tkb vx tb)) q2 j R) by ac_rfl))
      (fun y hy => by obtain ⟨t, ht, e⟩ := k2 y hy; exact ⟨t, List.mem_append_left _ ht, e⟩) (fun y hy => by obtain ⟨t, ht, e⟩ := k3 y hy; exact ⟨t, List.mem_append_left _ ht, e⟩) (by omega) (t := ⟨b, ⟨.func (.func 95) #[] #[pt tkb], rfl⟩, false⟩) (List.mem_append_right _ List.mem_cons_self) 96 95 #[pt vx, pt tb] #[pt tkb] rfl
    rw [hcl2, r2.cb] at hws
    have hno : noRecv c2 ⟨b, ⟨.func (.func 95) #[] #[pt tkb], rfl⟩, false⟩ = false := by
      have hz := r2.snd
      rw [hsn] at hz
      have : c2.snd = [] := List.eq_nil_of_length_eq_zero hz.1
      unfold noRecv
      rw [r2.closed, hcl, this, r2.buf, hbf]
      rfl
    rw [hno] at hws
    clear S8 S10
    ((refine vL_val (opv_makeFunc rfl) ?_))
    refine vL_callF rfl (hws) rfl ?_
    rintro _ w6 (⟨h1, _, _⟩ | ⟨_, rfl, S11⟩)
    · cases h1
    have P := prel_waitR hp2 hx2 hi2 hg2 hc2 hd (b := b) (e := ⟨b, ⟨.func (.func 96) #[] #[pt vx, pt tb], rfl⟩⟩) ⟨rfl, rfl⟩ (fv := ⟨.func (.func 95) #[] #[pt tkb], rfl⟩) rfl htn
    have S12 := pw_shut (R := R) (rb := rb) (rest := rest) P (S11.ac (by
      unfold Ot
      rw [ghs_put _ (List.getElem?_eq_some_iff.1 hg2).1, ghA_r, ghs_pick hg2, ghA_r, big_map_put _ _ (List.getElem?_eq_some_iff.1 hc2).1]
      show _ = RtA rb (nowB (T.setSt i (.mR k tkb vx tb)) (some i)) rest (T.setSt i (.mR k tkb vx tb)).line q2.ts * _
      ac_rfl))
    ((refine vE rfl ?_); apply vL_nil; apply seqP_normal; apply vC_ret)
    (apply ret1; (case h1 => (exact norm_eq rfl)))
    refine ⟨rfl, kb2, fun b hb => hk3 b (hk1 b hb), ?_⟩
    have e : (T.setSt i (.mR k tkb vx tb)).sts.set i (.wR k j) = T.sts.set i (.wR k j) := List.set_set ..
    rw [e] at S12
    exact S12
end
end Go.Proofs.YtbaidcnalkdhgaaGreat
set_option maxRecDepth 100000
namespace Go.Proofs.YtbaidcnalkdhgaaGreat
open Go Go.Eng
theorem without_erase_q {xs : List Int} {k : Nat} {y : Int} (hn : xs.Nodup) (h : xs[k]? = some y) : without xs k = xs.erase y := by
  have hk := (List.getElem?_eq_some_iff.1 h).1
  have e := (List.getElem?_eq_some_iff.1 h).2
  have e1 : xs = xs.take k ++ y :: xs.drop (k + 1) := by
    conv => lhs; rw [← List.take_append_drop k xs, List.drop_eq_getElem_cons hk, e]
  rw [without, if_neg (by omega)]
  simp only [Int.toNat_natCast]
  have hn' := hn
  rw [e1, List.nodup_append, List.nodup_cons] at hn'
  conv => rhs; rw [e1]
  rw [List.erase_append_right _ (fun hm => hn'.2.2 y hm y (by simp) rfl), List.erase_cons_head]
section
variable {κ : Type}
def PS.yield (S : PS κ) (i : Nat) (k : κ) : PS κ := ⟨S.sts.set i (.rdyY k), S.tbs, S.cs, readyL S.line i⟩
def PS.start (S : PS κ) (i : Nat) (k : Int) : PS κ := ⟨S.sts.set i .run, S.tbs, S.cs, without S.line k⟩
def PS.endTurn (S : PS κ) (i : Nat) : PS κ := match S.sts[i]? with
  | some .run => ⟨S.sts.set i .over, S.tbs, S.cs, S.line⟩
  | _ => S
def St.args : St κ → List Value
  | .rdyS _ ok => [.bool ok]
  | .rdyR _ v ok => [.int .i64 v, .bool ok]
  | _ => []
def LawP.cl (L : LawP κ) (t : Nat) (kb : List Bx) (f : Value) : St κ → Prop
  | .rdyS k _ => L.th k kb f
  | .rdyR k _ _ => L.tr k kb f
  | .rdyY k => L.yd k t kb f
  | _ => False
variable {L : LawP κ} {q : Q16} {nowi : Option Nat} {kb : List Bx} {S : PS κ} {i : Nat} {x : Nat × TK} {g0 : Gh} {rb : Nat} {rest : Int} {w0 w : World} {F0 : Nat → Prop} {R : Asr}
theorem pw_yield [Lcl R] (S1 : At (PWA L rb (some i) rest kb S * R) w0 F0 w) {tb0 : Nat} (hi : S.sts[i]? = some .run) (ht : S.tbs[i]? = some tb0) (g : FuncId) (cap : Array Value) (k : κ) (hyd : L.yd k tb0 kb (.func (.func g) #[] cap)) :
    Rets Tryz.prog 168 #[pt tb0, .func (.func g) #[] cap] w fun u w' => u = .int .i64 0 ∧ At (PWA L rb (some i) rest kb (S.yield i k) * R) w0 F0 w' := by
  obtain ⟨q, hp, S2⟩ := pw_open S1
  obtain ⟨x, g0, hx, hg⟩ := hp.xs hi
  have hxt : x.1 = tb0 := by
    rw [hp.tbs, List.getElem?_map, hx] at ht
    exact Option.some.inj ht
  subst hxt
  have hnb : nowB S (some i) = some x.1 := by unfold nowB; exact ht
  have hm : mayE false (nowB S (some i)) x = 0 := by
    have := hp.said i x _ rfl hx hi
    rw [hnb]; unfold mayE; rw [if_neg (by simp), if_pos rfl, this]; rfl
  have hl := hp.line_len
  refine (yieldA S2 hx g cap (by omega) hm).mono fun u w' ⟨h1, h2⟩ => ⟨h1, ?_⟩
  obtain ⟨r1, r2, r3⟩ := hp.ready i
  have ho := (hp.tk i x _ _ hx hg hi).2.2
  have P := hp.upd hx hg hi (x' := (x.1, { x.2 with next := ⟨.func (.func g) #[] cap, rfl⟩, said := true, parked := false })) (g' := g0) (s' := .rdyY k) (cs' := q.cs) (tks' := q.tks) (ds' := S.cs) (line' := readyL S.line i) (nowi' := some i) (kb' := kb) rfl (fun b hb => hb) (fun _ _ _ _ _ _ _ _ r => r) hyd rfl ho (fun _ _ => Iff.rfl) (fun _ => rfl) (fun h => by cases h) (fun _ => rfl) hp.lc (hp.keepC hi rfl (TkKeep.refl _)) r1 r2 (fun m hm => by rw [r3 m]; exact ⟨fun h => h.elim (fun h => absurd h hm) id, .inr⟩) ⟨fun _ => rfl, fun _ => (r3 i).2 (.inl rfl)⟩ hp.tn (fun h => by cases h)
  rw [set_same hg] at P
  exact pw_shut P h2
theorem prel_start (hp : PRel L q none kb S) {s : St κ} {z : Int} (hs : S.sts[i]? = some s) (hx : q.ts[i]? = some x) (hg : q.ghs[i]? = some g0) (hid : S.line[z.toNat]? = some (i : Int)) (hz : 0 ≤ z) :
    s.rdy = true ∧ PRel L ⟨q.ts.set i (x.1, { x.2 with next := ⟨.nilFunc, rfl⟩, said := false }), q.cs, q.tks, q.ghs⟩ (some i) kb (S.start i z) := by
  have hm : (i : Int) ∈ S.line := List.mem_of_getElem? hid
  obtain ⟨s', h1, h2⟩ := (hp.rdy i).1 hm
  rw [hs] at h1
  cases h1
  have hw : s.waits = false := by cases s <;> first | rfl | (cases h2; done)
  obtain ⟨h3, hpk, hov⟩ := hp.tk i x g0 s hx hg hs
  have hpk2 : x.2.parked = false := by rw [hpk]; cases s <;> first | rfl | (cases h2; done)
  have hov2 : x.2.over = false := by rw [hov]; cases s <;> first | rfl | (cases h2; done)
  have ew : without S.line z = S.line.erase (i : Int) := by
    have := without_erase_q (k := z.toNat) hp.nd hid
    rw [← this]; congr 1; omega
  have P := hp.upd hx hg hs (x' := (x.1, { x.2 with next := ⟨.nilFunc, rfl⟩, said := false })) (g' := g0) (s' := .run) (cs' := q.cs) (tks' := q.tks) (ds' := S.cs) (line' := without S.line z) (nowi' := some i) (kb' := kb) rfl (fun b hb => hb) (fun _ _ _ _ _ _ _ _ r => r) trivial hpk2 hov2 (fun m hm => ⟨fun h => absurd (Option.some.inj h).symm hm, fun h => by cases h⟩) (fun _ => rfl) (fun _ => rfl) (fun _ => rfl) hp.lc (hp.keepC hs hw (TkKeep.refl _)) (by rw [ew]; exact hp.nd.erase _) (fun y hy => by rw [ew] at hy; exact hp.nn y (List.mem_of_mem_erase hy)) (fun m hm => by rw [ew]; exact List.mem_erase_of_ne (by omega)) (by
      rw [ew]
      constructor
      · intro h; exact absurd h (List.Nodup.not_mem_erase hp.nd)
      · intro h; cases h) hp.tn (fun h => by cases h)
  rw [set_same hg] at P
  exact ⟨h2, P⟩
theorem prel_end (hp : PRel L q (some i) kb S) (hx : q.ts[i]? = some x) : PRel L ⟨q.ts.set i (x.1, { x.2 with over := !x.2.said }), q.cs, q.tks, q.ghs⟩ none kb (S.endTurn i) := by
  have hlt : i < S.sts.length := hp.nowok i rfl
  obtain ⟨s, hs⟩ : ∃ s, S.sts[i]? = some s := ⟨_, List.getElem?_eq_getElem hlt⟩
  obtain ⟨g0, hg⟩ : ∃ g, q.ghs[i]? = some g := ⟨_, List.getElem?_eq_getElem (by rw [hp.lg]; exact hlt)⟩
  obtain ⟨h3, hpk, hov⟩ := hp.tk i x g0 s hx hg hs
  have hsd := hp.said i x s rfl hx hs
  have hno := hp.nov i s rfl hs
  have hn1 : ∀ m, m ≠ i → (none = some m ↔ some i = some m) := fun m hm => ⟨fun h => (by cases h), fun h => absurd (Option.some.inj h).symm hm⟩
  by_cases hr : s = .run
  · subst hr
    have e : S.endTurn i = ⟨S.sts.set i .over, S.tbs, S.cs, S.line⟩ := by unfold PS.endTurn; rw [hs]
    rw [e]
    have P := hp.upd hx hg hs (x' := (x.1, { x.2 with over := !x.2.said })) (g' := g0) (s' := .over) (cs' := q.cs) (tks' := q.tks) (ds' := S.cs) (line' := S.line) (nowi' := none) (kb' := kb) rfl (fun b hb => hb) (fun _ _ _ _ _ _ _ _ r => r) trivial hpk (by show (!x.2.said) = true; rw [hsd]; rfl) hn1 (fun h => by cases h) (fun h => by cases h) (fun h => by cases h) hp.lc (hp.keepC hs rfl (TkKeep.refl _)) hp.nd hp.nn (fun _ _ => Iff.rfl) (by rw [hp.rdy i, hs]; simp [St.rdy]) hp.tn (fun h => by cases h)
    rw [set_same hg] at P
    exact P
  · have hr2 : s.isRun = false := by cases s <;> first | rfl | exact absurd rfl hr
    have e : S.endTurn i = S := by
      unfold PS.endTurn; rw [hs]
      cases s <;> first | rfl | exact absurd rfl hr
    rw [e]
    have ex : ((x.1, { x.2 with over := !x.2.said }) : Nat × TK) = x := by
      obtain ⟨b, t⟩ := x
      have h1 : t.said = true := by rw [show t.said = _ from hsd, hr2]; rfl
      have h2 : t.over = false := by rw [show t.over = _ from hov, hno]
      cases t
      simp only at h1 h2 ⊢
      rw [h1, h2]; rfl
    rw [ex, set_same hx]
    exact { hp with
      said := fun m y t h => by cases h
      run := fun m t ht hrun => by
        have h := hp.run m t ht hrun
        obtain rfl := Option.some.inj h
        rw [hs] at ht
        cases ht
        rw [hr2] at hrun; cases hrun
      nowok := fun m h => by cases h
      nov := fun m t h => by cases h }
end
end Go.Proofs.YtbaidcnalkdhgaaGreat

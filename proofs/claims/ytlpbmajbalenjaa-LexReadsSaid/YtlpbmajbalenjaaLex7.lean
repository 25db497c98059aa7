/- A text's tokens, by hand: the reference's rules, its four shapes taken together. -/
import Derived.Test.YtlpbmajbalenjaaLex6
import Derived.Test.YtlpbmajbalenjaaWX
set_option linter.unusedVariables false
set_option linter.unusedSimpArgs false
set_option maxRecDepth 100000
namespace Go.Proofs.YtlpbmajbalenjaaA
open Go Go.Proofs
theorem em_ (p : Prop) : p ∨ ¬ p := Classical.em p
section
variable (c : ByteArray) (l : List Tk) (p q : Int)
def RM (X : Fin 4) (f a : Int) (u : List Tk) : Prop := match X with
 | 0 => ref19_All_l0 c f a l p q
 | 1 => ref19_All_l2 c f a u l p q
 | 2 => ref19_All_l8 c f a u l p q
 | 3 => ref19_All_l9 c f a u l p q
def RC (X : Fin 4) (f a e : Int) (u : List Tk) : Prop := match X with
 | 0 => ref19_All_l1 c f a e l p q
 | 1 => ref19_All_l5 c f a e u l p q
 | 2 => ref19_All_l10 c f a e u l p q
 | 3 => ref19_All_l13 c f a e u l p q
def RF (X : Fin 4) (f a e : Int) (u : List Tk) : Prop := match X with
 | 0 => ref19_All_l3 c f a e l p q
 | 1 => ref19_All_l6 c f a e u l p q
 | 2 => ref19_All_l11 c f a e u l p q
 | 3 => ref19_All_l14 c f a e u l p q
def RW (X : Fin 4) (f a e : Int) (u : List Tk) : Prop := match X with
 | 0 => ref19_All_l4 c f a e l p q
 | 1 => ref19_All_l7 c f a e u l p q
 | 2 => ref19_All_l12 c f a e u l p q
 | 3 => ref19_All_l15 c f a e u l p q
end
section
variable {c : ByteArray} {l : List Tk} {p q : Int}
theorem RM.end {X : Fin 4} {f a : Int} {u : List Tk} (hX : X = 0 → u = []) (h : ¬ a < (c.size : Int)) (h1 : l = u) (h2 : p = f) (h3 : q = 0) : RM c l p q X f a u := by
 by_cases x0 : X = 0
 ·subst x0
  obtain rfl := hX rfl
  exact ref19_All_l0_go (.inr ⟨h, h1, h2, h3⟩)
 by_cases x1 : X = 1
 ·subst x1
  exact ref19_All_l2_go (.inr ⟨h, h1, h2, h3⟩)
 by_cases x2 : X = 2
 ·subst x2
  exact ref19_All_l8_go (.inr ⟨h, h1, h2, h3⟩)
 by_cases x3 : X = 3
 ·subst x3
  exact ref19_All_l9_go (.inr ⟨h, h1, h2, h3⟩)
 exact absurd X.2 (by omega)
theorem RM.nl {X : Fin 4} {f a : Int} {u : List Tk} (hX : X = 0 → u = []) (h : a < (c.size : Int)) (h0 : 0 ≤ a) (h1 : letter c a = 10) (r : RM c l p q X (wi (f + 1)) (wi (a + 1)) u) : RM c l p q X f a u := by
 by_cases x0 : X = 0
 ·subst x0
  obtain rfl := hX rfl
  exact ref19_All_l0_go (.inl ⟨h, h0, .inl ⟨h1, r⟩⟩)
 by_cases x1 : X = 1
 ·subst x1
  exact ref19_All_l2_go (.inl ⟨h, h0, .inl ⟨h1, r⟩⟩)
 by_cases x2 : X = 2
 ·subst x2
  exact ref19_All_l8_go (.inl ⟨h, h0, .inl ⟨h1, r⟩⟩)
 by_cases x3 : X = 3
 ·subst x3
  exact ref19_All_l9_go (.inl ⟨h, h0, .inl ⟨h1, r⟩⟩)
 exact absurd X.2 (by omega)
theorem RM.bl {X : Fin 4} {f a : Int} {u : List Tk} (hX : X = 0 → u = []) (h : a < (c.size : Int)) (h0 : 0 ≤ a) (h1 : letter c a = 32 ∨ letter c a = 9) (r : RM c l p q X f (wi (a + 1)) u) : RM c l p q X f a u := by
 by_cases x0 : X = 0
 ·subst x0
  obtain rfl := hX rfl
  exact ref19_All_l0_go (.inl ⟨h, h0, .inr ⟨by omega, (em_ (letter c a = 32)).elim (fun e => .inl ⟨e, r⟩) (fun e => .inr ⟨e, .inl ⟨h1.resolve_left e, r⟩⟩)⟩⟩)
 by_cases x1 : X = 1
 ·subst x1
  exact ref19_All_l2_go (.inl ⟨h, h0, .inr ⟨by omega, (em_ (letter c a = 32)).elim (fun e => .inl ⟨e, r⟩) (fun e => .inr ⟨e, .inl ⟨h1.resolve_left e, r⟩⟩)⟩⟩)
 by_cases x2 : X = 2
 ·subst x2
  exact ref19_All_l8_go (.inl ⟨h, h0, .inr ⟨by omega, (em_ (letter c a = 32)).elim (fun e => .inl ⟨e, r⟩) (fun e => .inr ⟨e, .inl ⟨h1.resolve_left e, r⟩⟩)⟩⟩)
 by_cases x3 : X = 3
 ·subst x3
  exact ref19_All_l9_go (.inl ⟨h, h0, .inr ⟨by omega, (em_ (letter c a = 32)).elim (fun e => .inl ⟨e, r⟩) (fun e => .inr ⟨e, .inl ⟨h1.resolve_left e, r⟩⟩)⟩⟩)
 exact absurd X.2 (by omega)
theorem RM.com {X : Fin 4} {f a : Int} {u : List Tk} (hX : X = 0 → u = []) (h : a < (c.size : Int)) (h0 : 0 ≤ a) (h1 : letter c a = 35) (r : RC c l p q X f a 1 u) : RM c l p q X f a u := by
 by_cases x0 : X = 0
 ·subst x0
  obtain rfl := hX rfl
  exact ref19_All_l0_go (.inl ⟨h, h0, .inr ⟨by omega, .inr ⟨by omega, .inr ⟨by omega, .inl ⟨h1, r⟩⟩⟩⟩⟩)
 by_cases x1 : X = 1
 ·subst x1
  exact ref19_All_l2_go (.inl ⟨h, h0, .inr ⟨by omega, .inr ⟨by omega, .inr ⟨by omega, .inl ⟨h1, r⟩⟩⟩⟩⟩)
 by_cases x2 : X = 2
 ·subst x2
  exact ref19_All_l8_go (.inl ⟨h, h0, .inr ⟨by omega, .inr ⟨by omega, .inr ⟨by omega, .inl ⟨h1, r⟩⟩⟩⟩⟩)
 by_cases x3 : X = 3
 ·subst x3
  exact ref19_All_l9_go (.inl ⟨h, h0, .inr ⟨by omega, .inr ⟨by omega, .inr ⟨by omega, .inl ⟨h1, r⟩⟩⟩⟩⟩)
 exact absurd X.2 (by omega)
theorem RM.mark {X : Fin 4} {f a : Int} {u : List Tk} (hX : X = 0 → u = []) (h : a < (c.size : Int)) (h0 : 0 ≤ a) (n1 : ¬ letter c a = 10) (n2 : ¬ letter c a = 32) (n3 : ¬ letter c a = 9) (n4 : ¬ letter c a = 35) (m : ref19_mark_R (letter c a) true) (b1 : a ≤ wi (a + 1)) (b2 : wi (a + 1) ≤ (c.size : Int)) (b3 : u.length < 1000000) (r : RM c l p q 1 f (wi (a + 1)) (u ++ [(3, c.extract a.toNat (wi (a + 1)).toNat, f)])) : RM c l p q X f a u := by
 by_cases x0 : X = 0
 ·subst x0
  obtain rfl := hX rfl
  exact ref19_All_l0_go (.inl ⟨h, h0, .inr ⟨n1, .inr ⟨n2, .inr ⟨n3, .inr ⟨n4, ⟨true, m, .inl ⟨rfl, b1, b2, by decide, _, rfl, r⟩⟩⟩⟩⟩⟩⟩)
 by_cases x1 : X = 1
 ·subst x1
  exact ref19_All_l2_go (.inl ⟨h, h0, .inr ⟨n1, .inr ⟨n2, .inr ⟨n3, .inr ⟨n4, ⟨true, m, .inl ⟨rfl, b1, b2, by omega, _, rfl, r⟩⟩⟩⟩⟩⟩⟩)
 by_cases x2 : X = 2
 ·subst x2
  exact ref19_All_l8_go (.inl ⟨h, h0, .inr ⟨n1, .inr ⟨n2, .inr ⟨n3, .inr ⟨n4, ⟨true, m, .inl ⟨rfl, b1, b2, by omega, _, rfl, r⟩⟩⟩⟩⟩⟩⟩)
 by_cases x3 : X = 3
 ·subst x3
  exact ref19_All_l9_go (.inl ⟨h, h0, .inr ⟨n1, .inr ⟨n2, .inr ⟨n3, .inr ⟨n4, ⟨true, m, .inl ⟨rfl, b1, b2, by omega, _, rfl, r⟩⟩⟩⟩⟩⟩⟩)
 exact absurd X.2 (by omega)
theorem RM.fig {X : Fin 4} {f a : Int} {u : List Tk} (hX : X = 0 → u = []) (h : a < (c.size : Int)) (h0 : 0 ≤ a) (n1 : ¬ letter c a = 10) (n2 : ¬ letter c a = 32) (n3 : ¬ letter c a = 9) (n4 : ¬ letter c a = 35) (m : ref19_mark_R (letter c a) false) (d1 : 48 ≤ letter c a) (d2 : letter c a ≤ 57) (r : RF c l p q X f a 1 u) : RM c l p q X f a u := by
 by_cases x0 : X = 0
 ·subst x0
  obtain rfl := hX rfl
  exact ref19_All_l0_go (.inl ⟨h, h0, .inr ⟨n1, .inr ⟨n2, .inr ⟨n3, .inr ⟨n4, ⟨false, m, .inr ⟨by decide, .inl ⟨d1, .inl ⟨d2, r⟩⟩⟩⟩⟩⟩⟩⟩⟩)
 by_cases x1 : X = 1
 ·subst x1
  exact ref19_All_l2_go (.inl ⟨h, h0, .inr ⟨n1, .inr ⟨n2, .inr ⟨n3, .inr ⟨n4, ⟨false, m, .inr ⟨by decide, .inl ⟨d1, .inl ⟨d2, r⟩⟩⟩⟩⟩⟩⟩⟩⟩)
 by_cases x2 : X = 2
 ·subst x2
  exact ref19_All_l8_go (.inl ⟨h, h0, .inr ⟨n1, .inr ⟨n2, .inr ⟨n3, .inr ⟨n4, ⟨false, m, .inr ⟨by decide, .inl ⟨d1, .inl ⟨d2, r⟩⟩⟩⟩⟩⟩⟩⟩⟩)
 by_cases x3 : X = 3
 ·subst x3
  exact ref19_All_l9_go (.inl ⟨h, h0, .inr ⟨n1, .inr ⟨n2, .inr ⟨n3, .inr ⟨n4, ⟨false, m, .inr ⟨by decide, .inl ⟨d1, .inl ⟨d2, r⟩⟩⟩⟩⟩⟩⟩⟩⟩)
 exact absurd X.2 (by omega)
theorem RM.word {X : Fin 4} {f a : Int} {u : List Tk} (hX : X = 0 → u = []) (h : a < (c.size : Int)) (h0 : 0 ≤ a) (n1 : ¬ letter c a = 10) (n2 : ¬ letter c a = 32) (n3 : ¬ letter c a = 9) (n4 : ¬ letter c a = 35) (m : ref19_mark_R (letter c a) false) (d1 : 97 ≤ letter c a) (d2 : letter c a ≤ 122) (r : RW c l p q X f a 1 u) : RM c l p q X f a u := by
 by_cases x0 : X = 0
 ·subst x0
  obtain rfl := hX rfl
  exact ref19_All_l0_go (.inl ⟨h, h0, .inr ⟨n1, .inr ⟨n2, .inr ⟨n3, .inr ⟨n4, ⟨false, m, .inr ⟨by decide, .inl ⟨by omega, .inr ⟨by omega, .inl ⟨d1, .inl ⟨d2, r⟩⟩⟩⟩⟩⟩⟩⟩⟩⟩⟩)
 by_cases x1 : X = 1
 ·subst x1
  exact ref19_All_l2_go (.inl ⟨h, h0, .inr ⟨n1, .inr ⟨n2, .inr ⟨n3, .inr ⟨n4, ⟨false, m, .inr ⟨by decide, .inl ⟨by omega, .inr ⟨by omega, .inl ⟨d1, .inl ⟨d2, r⟩⟩⟩⟩⟩⟩⟩⟩⟩⟩⟩)
 by_cases x2 : X = 2
 ·subst x2
  exact ref19_All_l8_go (.inl ⟨h, h0, .inr ⟨n1, .inr ⟨n2, .inr ⟨n3, .inr ⟨n4, ⟨false, m, .inr ⟨by decide, .inl ⟨by omega, .inr ⟨by omega, .inl ⟨d1, .inl ⟨d2, r⟩⟩⟩⟩⟩⟩⟩⟩⟩⟩⟩)
 by_cases x3 : X = 3
 ·subst x3
  exact ref19_All_l9_go (.inl ⟨h, h0, .inr ⟨n1, .inr ⟨n2, .inr ⟨n3, .inr ⟨n4, ⟨false, m, .inr ⟨by decide, .inl ⟨by omega, .inr ⟨by omega, .inl ⟨d1, .inl ⟨d2, r⟩⟩⟩⟩⟩⟩⟩⟩⟩⟩⟩)
 exact absurd X.2 (by omega)
theorem RM.bad {X : Fin 4} {f a : Int} {u : List Tk} (hX : X = 0 → u = []) (h : a < (c.size : Int)) (h0 : 0 ≤ a) (n1 : ¬ letter c a = 10) (n2 : ¬ letter c a = 32) (n3 : ¬ letter c a = 9) (n4 : ¬ letter c a = 35) (m : ref19_mark_R (letter c a) false) (d1 : ¬ (48 ≤ letter c a ∧ letter c a ≤ 57)) (d2 : ¬ (97 ≤ letter c a ∧ letter c a ≤ 122)) (e1 : l = []) (e2 : p = f) (e3 : q = 21) : RM c l p q X f a u := by
 by_cases x0 : X = 0
 ·subst x0
  obtain rfl := hX rfl
  exact ref19_All_l0_go (.inl ⟨h, h0, .inr ⟨n1, .inr ⟨n2, .inr ⟨n3, .inr ⟨n4, ⟨false, m, .inr ⟨by decide, (em_ (48 ≤ letter c a)).elim (fun y => .inl ⟨y, .inr ⟨fun z => d1 ⟨y, z⟩, (em_ (97 ≤ letter c a)).elim (fun y => .inl ⟨y, .inr ⟨fun z => d2 ⟨y, z⟩, e1, e2, e3⟩⟩) (fun y => .inr ⟨y, e1, e2, e3⟩)⟩⟩) (fun y => .inr ⟨y, (em_ (97 ≤ letter c a)).elim (fun y => .inl ⟨y, .inr ⟨fun z => d2 ⟨y, z⟩, e1, e2, e3⟩⟩) (fun y => .inr ⟨y, e1, e2, e3⟩)⟩)⟩⟩⟩⟩⟩⟩⟩)
 by_cases x1 : X = 1
 ·subst x1
  exact ref19_All_l2_go (.inl ⟨h, h0, .inr ⟨n1, .inr ⟨n2, .inr ⟨n3, .inr ⟨n4, ⟨false, m, .inr ⟨by decide, (em_ (48 ≤ letter c a)).elim (fun y => .inl ⟨y, .inr ⟨fun z => d1 ⟨y, z⟩, (em_ (97 ≤ letter c a)).elim (fun y => .inl ⟨y, .inr ⟨fun z => d2 ⟨y, z⟩, e1, e2, e3⟩⟩) (fun y => .inr ⟨y, e1, e2, e3⟩)⟩⟩) (fun y => .inr ⟨y, (em_ (97 ≤ letter c a)).elim (fun y => .inl ⟨y, .inr ⟨fun z => d2 ⟨y, z⟩, e1, e2, e3⟩⟩) (fun y => .inr ⟨y, e1, e2, e3⟩)⟩)⟩⟩⟩⟩⟩⟩⟩)
 by_cases x2 : X = 2
 ·subst x2
  exact ref19_All_l8_go (.inl ⟨h, h0, .inr ⟨n1, .inr ⟨n2, .inr ⟨n3, .inr ⟨n4, ⟨false, m, .inr ⟨by decide, (em_ (48 ≤ letter c a)).elim (fun y => .inl ⟨y, .inr ⟨fun z => d1 ⟨y, z⟩, (em_ (97 ≤ letter c a)).elim (fun y => .inl ⟨y, .inr ⟨fun z => d2 ⟨y, z⟩, e1, e2, e3⟩⟩) (fun y => .inr ⟨y, e1, e2, e3⟩)⟩⟩) (fun y => .inr ⟨y, (em_ (97 ≤ letter c a)).elim (fun y => .inl ⟨y, .inr ⟨fun z => d2 ⟨y, z⟩, e1, e2, e3⟩⟩) (fun y => .inr ⟨y, e1, e2, e3⟩)⟩)⟩⟩⟩⟩⟩⟩⟩)
 by_cases x3 : X = 3
 ·subst x3
  exact ref19_All_l9_go (.inl ⟨h, h0, .inr ⟨n1, .inr ⟨n2, .inr ⟨n3, .inr ⟨n4, ⟨false, m, .inr ⟨by decide, (em_ (48 ≤ letter c a)).elim (fun y => .inl ⟨y, .inr ⟨fun z => d1 ⟨y, z⟩, (em_ (97 ≤ letter c a)).elim (fun y => .inl ⟨y, .inr ⟨fun z => d2 ⟨y, z⟩, e1, e2, e3⟩⟩) (fun y => .inr ⟨y, e1, e2, e3⟩)⟩⟩) (fun y => .inr ⟨y, (em_ (97 ≤ letter c a)).elim (fun y => .inl ⟨y, .inr ⟨fun z => d2 ⟨y, z⟩, e1, e2, e3⟩⟩) (fun y => .inr ⟨y, e1, e2, e3⟩)⟩)⟩⟩⟩⟩⟩⟩⟩)
 exact absurd X.2 (by omega)
theorem RC.end {X : Fin 4} {f a e : Int} {u : List Tk} (hX : X = 0 → u = []) (h : ¬ wi (a + e) < (c.size : Int)) (r : RM c l p q X f (wi (a + e)) u) : RC c l p q X f a e u := by
 by_cases x0 : X = 0
 ·subst x0
  obtain rfl := hX rfl
  exact ref19_All_l1_go (.inr ⟨h, r⟩)
 by_cases x1 : X = 1
 ·subst x1
  exact ref19_All_l5_go (.inr ⟨h, r⟩)
 by_cases x2 : X = 2
 ·subst x2
  exact ref19_All_l10_go (.inr ⟨h, r⟩)
 by_cases x3 : X = 3
 ·subst x3
  exact ref19_All_l13_go (.inr ⟨h, r⟩)
 exact absurd X.2 (by omega)
theorem RC.nl {X : Fin 4} {f a e : Int} {u : List Tk} (hX : X = 0 → u = []) (h : wi (a + e) < (c.size : Int)) (h0 : 0 ≤ wi (a + e)) (h1 : letter c (wi (a + e)) = 10) (r : RM c l p q X f (wi (a + e)) u) : RC c l p q X f a e u := by
 by_cases x0 : X = 0
 ·subst x0
  obtain rfl := hX rfl
  exact ref19_All_l1_go (.inl ⟨h, h0, .inl ⟨h1, r⟩⟩)
 by_cases x1 : X = 1
 ·subst x1
  exact ref19_All_l5_go (.inl ⟨h, h0, .inl ⟨h1, r⟩⟩)
 by_cases x2 : X = 2
 ·subst x2
  exact ref19_All_l10_go (.inl ⟨h, h0, .inl ⟨h1, r⟩⟩)
 by_cases x3 : X = 3
 ·subst x3
  exact ref19_All_l13_go (.inl ⟨h, h0, .inl ⟨h1, r⟩⟩)
 exact absurd X.2 (by omega)
theorem RC.more {X : Fin 4} {f a e : Int} {u : List Tk} (hX : X = 0 → u = []) (h : wi (a + e) < (c.size : Int)) (h0 : 0 ≤ wi (a + e)) (h1 : ¬ letter c (wi (a + e)) = 10) (r : RC c l p q X f a (wi (e + 1)) u) : RC c l p q X f a e u := by
 by_cases x0 : X = 0
 ·subst x0
  obtain rfl := hX rfl
  exact ref19_All_l1_go (.inl ⟨h, h0, .inr ⟨h1, r⟩⟩)
 by_cases x1 : X = 1
 ·subst x1
  exact ref19_All_l5_go (.inl ⟨h, h0, .inr ⟨h1, r⟩⟩)
 by_cases x2 : X = 2
 ·subst x2
  exact ref19_All_l10_go (.inl ⟨h, h0, .inr ⟨h1, r⟩⟩)
 by_cases x3 : X = 3
 ·subst x3
  exact ref19_All_l13_go (.inl ⟨h, h0, .inr ⟨h1, r⟩⟩)
 exact absurd X.2 (by omega)
theorem RF.end {X : Fin 4} {f a e : Int} {u : List Tk} (hX : X = 0 → u = []) (h : ¬ wi (a + e) < (c.size : Int)) (b0 : 0 ≤ a) (b1 : a ≤ wi (a + e)) (b2 : wi (a + e) ≤ (c.size : Int)) (b3 : u.length < 1000000) (r : RM c l p q 2 f (wi (a + e)) (u ++ [(2, c.extract a.toNat (wi (a + e)).toNat, f)])) : RF c l p q X f a e u := by
 by_cases x0 : X = 0
 ·subst x0
  obtain rfl := hX rfl
  exact ref19_All_l3_go (.inr ⟨h, b0, b1, b2, by decide, _, rfl, r⟩)
 by_cases x1 : X = 1
 ·subst x1
  exact ref19_All_l6_go (.inr ⟨h, b0, b1, b2, by omega, _, rfl, r⟩)
 by_cases x2 : X = 2
 ·subst x2
  exact ref19_All_l11_go (.inr ⟨h, b0, b1, b2, by omega, _, rfl, r⟩)
 by_cases x3 : X = 3
 ·subst x3
  exact ref19_All_l14_go (.inr ⟨h, b0, b1, b2, by omega, _, rfl, r⟩)
 exact absurd X.2 (by omega)
theorem RF.stop {X : Fin 4} {f a e : Int} {u : List Tk} (hX : X = 0 → u = []) (h : wi (a + e) < (c.size : Int)) (h0 : 0 ≤ wi (a + e)) (m : ref19_figure_R (letter c (wi (a + e))) false) (b0 : 0 ≤ a) (b1 : a ≤ wi (a + e)) (b2 : wi (a + e) ≤ (c.size : Int)) (b3 : u.length < 1000000) (r : RM c l p q 2 f (wi (a + e)) (u ++ [(2, c.extract a.toNat (wi (a + e)).toNat, f)])) : RF c l p q X f a e u := by
 by_cases x0 : X = 0
 ·subst x0
  obtain rfl := hX rfl
  exact ref19_All_l3_go (.inl ⟨h, h0, false, m, .inr ⟨by decide, b0, b1, b2, by decide, _, rfl, r⟩⟩)
 by_cases x1 : X = 1
 ·subst x1
  exact ref19_All_l6_go (.inl ⟨h, h0, false, m, .inr ⟨by decide, b0, b1, b2, by omega, _, rfl, r⟩⟩)
 by_cases x2 : X = 2
 ·subst x2
  exact ref19_All_l11_go (.inl ⟨h, h0, false, m, .inr ⟨by decide, b0, b1, b2, by omega, _, rfl, r⟩⟩)
 by_cases x3 : X = 3
 ·subst x3
  exact ref19_All_l14_go (.inl ⟨h, h0, false, m, .inr ⟨by decide, b0, b1, b2, by omega, _, rfl, r⟩⟩)
 exact absurd X.2 (by omega)
theorem RF.more {X : Fin 4} {f a e : Int} {u : List Tk} (hX : X = 0 → u = []) (h : wi (a + e) < (c.size : Int)) (h0 : 0 ≤ wi (a + e)) (m : ref19_figure_R (letter c (wi (a + e))) true) (r : RF c l p q X f a (wi (e + 1)) u) : RF c l p q X f a e u := by
 by_cases x0 : X = 0
 ·subst x0
  obtain rfl := hX rfl
  exact ref19_All_l3_go (.inl ⟨h, h0, true, m, .inl ⟨rfl, r⟩⟩)
 by_cases x1 : X = 1
 ·subst x1
  exact ref19_All_l6_go (.inl ⟨h, h0, true, m, .inl ⟨rfl, r⟩⟩)
 by_cases x2 : X = 2
 ·subst x2
  exact ref19_All_l11_go (.inl ⟨h, h0, true, m, .inl ⟨rfl, r⟩⟩)
 by_cases x3 : X = 3
 ·subst x3
  exact ref19_All_l14_go (.inl ⟨h, h0, true, m, .inl ⟨rfl, r⟩⟩)
 exact absurd X.2 (by omega)
theorem RW.end {X : Fin 4} {f a e : Int} {u : List Tk} (hX : X = 0 → u = []) (h : ¬ wi (a + e) < (c.size : Int)) (b0 : 0 ≤ a) (b1 : a ≤ wi (a + e)) (b2 : wi (a + e) ≤ (c.size : Int)) (b3 : u.length < 1000000) (r : RM c l p q 3 f (wi (a + e)) (u ++ [(1, c.extract a.toNat (wi (a + e)).toNat, f)])) : RW c l p q X f a e u := by
 by_cases x0 : X = 0
 ·subst x0
  obtain rfl := hX rfl
  exact ref19_All_l4_go (.inr ⟨h, b0, b1, b2, by decide, _, rfl, r⟩)
 by_cases x1 : X = 1
 ·subst x1
  exact ref19_All_l7_go (.inr ⟨h, b0, b1, b2, by omega, _, rfl, r⟩)
 by_cases x2 : X = 2
 ·subst x2
  exact ref19_All_l12_go (.inr ⟨h, b0, b1, b2, by omega, _, rfl, r⟩)
 by_cases x3 : X = 3
 ·subst x3
  exact ref19_All_l15_go (.inr ⟨h, b0, b1, b2, by omega, _, rfl, r⟩)
 exact absurd X.2 (by omega)
theorem RW.stop {X : Fin 4} {f a e : Int} {u : List Tk} (hX : X = 0 → u = []) (h : wi (a + e) < (c.size : Int)) (h0 : 0 ≤ wi (a + e)) (k1 : wi (a + e) ≤ wi (wi (a + e) + 1)) (k2 : wi (wi (a + e) + 1) ≤ (c.size : Int)) (k3 : (⟨#[97]⟩ : ByteArray).size + (c.extract (wi (a + e)).toNat (wi (wi (a + e) + 1)).toNat).size ≤ 9223372036854775807) (m : ref17_Word_R ((⟨#[97]⟩ : ByteArray) ++ c.extract (wi (a + e)).toNat (wi (wi (a + e) + 1)).toNat) false) (b0 : 0 ≤ a) (b1 : a ≤ wi (a + e)) (b2 : wi (a + e) ≤ (c.size : Int)) (b3 : u.length < 1000000) (r : RM c l p q 3 f (wi (a + e)) (u ++ [(1, c.extract a.toNat (wi (a + e)).toNat, f)])) : RW c l p q X f a e u := by
 by_cases x0 : X = 0
 ·subst x0
  obtain rfl := hX rfl
  exact ref19_All_l4_go (.inl ⟨h, h0, k1, k2, k3, false, m, .inr ⟨by decide, b0, b1, b2, by decide, _, rfl, r⟩⟩)
 by_cases x1 : X = 1
 ·subst x1
  exact ref19_All_l7_go (.inl ⟨h, h0, k1, k2, k3, false, m, .inr ⟨by decide, b0, b1, b2, by omega, _, rfl, r⟩⟩)
 by_cases x2 : X = 2
 ·subst x2
  exact ref19_All_l12_go (.inl ⟨h, h0, k1, k2, k3, false, m, .inr ⟨by decide, b0, b1, b2, by omega, _, rfl, r⟩⟩)
 by_cases x3 : X = 3
 ·subst x3
  exact ref19_All_l15_go (.inl ⟨h, h0, k1, k2, k3, false, m, .inr ⟨by decide, b0, b1, b2, by omega, _, rfl, r⟩⟩)
 exact absurd X.2 (by omega)
theorem RW.more {X : Fin 4} {f a e : Int} {u : List Tk} (hX : X = 0 → u = []) (h : wi (a + e) < (c.size : Int)) (h0 : 0 ≤ wi (a + e)) (k1 : wi (a + e) ≤ wi (wi (a + e) + 1)) (k2 : wi (wi (a + e) + 1) ≤ (c.size : Int)) (k3 : (⟨#[97]⟩ : ByteArray).size + (c.extract (wi (a + e)).toNat (wi (wi (a + e) + 1)).toNat).size ≤ 9223372036854775807) (m : ref17_Word_R ((⟨#[97]⟩ : ByteArray) ++ c.extract (wi (a + e)).toNat (wi (wi (a + e) + 1)).toNat) true) (r : RW c l p q X f a (wi (e + 1)) u) : RW c l p q X f a e u := by
 by_cases x0 : X = 0
 ·subst x0
  obtain rfl := hX rfl
  exact ref19_All_l4_go (.inl ⟨h, h0, k1, k2, k3, true, m, .inl ⟨rfl, r⟩⟩)
 by_cases x1 : X = 1
 ·subst x1
  exact ref19_All_l7_go (.inl ⟨h, h0, k1, k2, k3, true, m, .inl ⟨rfl, r⟩⟩)
 by_cases x2 : X = 2
 ·subst x2
  exact ref19_All_l12_go (.inl ⟨h, h0, k1, k2, k3, true, m, .inl ⟨rfl, r⟩⟩)
 by_cases x3 : X = 3
 ·subst x3
  exact ref19_All_l15_go (.inl ⟨h, h0, k1, k2, k3, true, m, .inl ⟨rfl, r⟩⟩)
 exact absurd X.2 (by omega)
end
end Go.Proofs.YtlpbmajbalenjaaA

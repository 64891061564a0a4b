/- Plain law: which products may be. -/
namespace Go.Proofs.Ytcbebbiedegjlaa.Pm
set_option linter.unusedVariables false
/-- A product. -/
structure Prod where
  name : ByteArray
  count : Int
  round : Int
  kind : Int
  every : Int
  times : Int
  grace : Int
  rate : Int
  resets : List (List Int)
  penalty : Int
  o1 : Int
  o2 : Int
  o3 : Int
  o4 : Int
  over : Int
  late : List (List Int)
  cap : Int
  roll : Int
  hol : List Int
/-- A text of bytes. -/
def txt (l : List UInt8) : ByteArray := ⟨l.toArray⟩
def small (c : UInt8) : Bool := decide (97 ≤ (c.toNat : Int)) && decide ((c.toNat : Int) ≤ 122)
def other (c : UInt8) : Bool := (decide (48 ≤ (c.toNat : Int)) && decide ((c.toNat : Int) ≤ 57)) || decide ((c.toNat : Int) = 45)
def letter (c : UInt8) : Bool := small c || other c
/-- The letters of a name. -/
def chars : List UInt8 → Bool
  | [] => true
  | c :: l => small c && l.all letter
def wordsL : List (List UInt8) :=
  [[112, 114, 111, 100, 117, 99, 116], [99, 111, 117, 110, 116], [116, 104, 105, 114, 116, 121], [102, 105, 120, 101, 100], [97, 99, 116, 117, 97, 108], [114, 111, 117, 110, 100], [104, 97, 108, 102, 45, 117, 112], [100, 111, 119, 110], [107, 105, 110, 100], [97, 110, 110, 117, 105, 116, 121], [101, 113, 117, 97, 108], [98, 117, 108, 108, 101, 116], [101, 118, 101, 114, 121], [116, 105, 109, 101, 115], [103, 114, 97, 99, 101], [114, 97, 116, 101], [112, 101, 110, 97, 108, 116, 121], [114, 101, 115, 101, 116], [108, 97, 116, 101], [99, 97, 112], [104, 111, 108, 105, 100, 97, 121], [111, 114, 100, 101, 114], [102, 101, 101, 115], [105, 110, 116, 101, 114, 101, 115, 116], [112, 114, 105, 110, 99, 105, 112, 97, 108], [111, 118, 101, 114], [104, 111, 108, 100], [112, 114, 101, 112, 97, 121], [114, 101, 102, 117, 110, 100], [114, 111, 108, 108], [115, 116, 97, 121], [110, 101, 120, 116], [119, 105, 116, 104, 105, 110], [112, 114, 101, 118, 105, 111, 117, 115]]
def isWord (l : List UInt8) : Bool := wordsL.contains l
/-- A name. -/
def nameOk (l : List UInt8) : Bool := chars l && decide (1 ≤ l.length) && decide (l.length ≤ 20) && !isWord l
def shapeOk (p : Prod) : Bool :=
  nameOk p.name.data.toList && decide ((1 ≤ p.count ∧ p.count ≤ 3) ∧ (p.round = 1 ∨ p.round = 3) ∧ (1 ≤ p.kind ∧ p.kind ≤ 3) ∧ (p.every = 1 ∨ p.every = 2 ∨ p.every = 3 ∨ p.every = 4 ∨ p.every = 6 ∨ p.every = 12) ∧ (1 ≤ p.times ∧ p.times ≤ 600) ∧ (0 ≤ p.grace ∧ p.grace ≤ p.times - 1) ∧ (p.kind = 3 → p.grace = 0))
/-- Resets: behind so many instalments which rate. -/
def resetsOk (times : Int) : Int → List (List Int) → Bool
  | _, [] => true
  | prev, r :: l => decide (1 ≤ r.getD 0 0 ∧ r.getD 0 0 ≤ times - 1 ∧ 0 ≤ r.getD 1 0 ∧ r.getD 1 0 ≤ 1000000000 ∧ prev < r.getD 0 0) && resetsOk times (r.getD 0 0) l
def ratesOk (p : Prod) : Bool := decide ((0 ≤ p.rate ∧ p.rate ≤ 1000000000) ∧ (0 ≤ p.penalty ∧ p.penalty ≤ 1000000000) ∧ p.resets.length ≤ 20) && resetsOk p.times 0 p.resets
def orderOk (a b c d : Int) : Bool := decide ((1 ≤ a ∧ a ≤ 4) ∧ (1 ≤ b ∧ b ≤ 4) ∧ (1 ≤ c ∧ c ≤ 4) ∧ (1 ≤ d ∧ d ≤ 4) ∧ a ≠ b ∧ a ≠ c ∧ a ≠ d ∧ b ≠ c ∧ b ≠ d ∧ c ≠ d)
def ordOk (p : Prod) : Bool := orderOk p.o1 p.o2 p.o3 p.o4 && decide (1 ≤ p.over ∧ p.over ≤ 3)
/-- Tiers: how many days behind the due day which fee. -/
def tiersOk : Int → Int → List (List Int) → Bool
  | _, _, [] => true
  | pd, pf, t :: l => decide (1 ≤ t.getD 0 0 ∧ t.getD 0 0 ≤ 365 ∧ 0 ≤ t.getD 1 0 ∧ t.getD 1 0 ≤ 10000000000000 ∧ pd < t.getD 0 0 ∧ pf ≤ t.getD 1 0) && tiersOk (t.getD 0 0) (t.getD 1 0) l
def lateOk (p : Prod) : Bool := decide (p.late.length ≤ 8 ∧ (0 ≤ p.cap ∧ p.cap ≤ 10000000000000) ∧ (p.late = [] → p.cap = 0)) && tiersOk 0 0 p.late
/-- Holidays rise. -/
def holsOk : Int → List Int → Bool
  | _, [] => true
  | p, a :: l => decide (-25567 ≤ a ∧ a ≤ 84370 ∧ p < a) && holsOk a l
def daysOk (p : Prod) : Bool := decide (p.hol.length ≤ 200 ∧ (1 ≤ p.roll ∧ p.roll ≤ 4) ∧ (p.roll = 1 → p.hol = [])) && holsOk (-25568) p.hol
def ok (p : Prod) : Bool := shapeOk p && ratesOk p && ordOk p && lateOk p && daysOk p
/-- What a look at a product answers. -/
def err (p : Prod) : Int := if ok p = true then 0 else 9
/-- A text of grammar, each word between blanks. -/
def joined : List (List UInt8) → List UInt8
  | [] => [32]
  | w :: ws => 32 :: (w ++ joined ws)
theorem joined_head (ws : List (List UInt8)) : ∃ t, joined ws = 32 :: t := by cases ws <;> exact ⟨_, rfl⟩
theorem pre_word : ∀ (s w L : List UInt8), (32 : UInt8) ∉ s → (32 : UInt8) ∉ w → ((s ++ [32]).isPrefixOf (w ++ 32 :: L) = true ↔ s = w)
  | [], [], L, _, _ => by simp
  | [], b :: w, L, _, hw => by
    have h1 : ((32 : UInt8) == b) = false := by
      rw [beq_eq_false_iff_ne]; intro e; exact hw (by simp [e])
    simp [List.isPrefixOf, h1]
  | a :: s, [], L, hs, _ => by
    have h1 : (a == (32 : UInt8)) = false := by
      rw [beq_eq_false_iff_ne]; intro e; exact hs (by simp [e])
    simp [List.isPrefixOf, h1]
  | a :: s, b :: w, L, hs, hw => by
    have ih := pre_word s w L (fun h => hs (List.mem_cons_of_mem _ h)) (fun h => hw (List.mem_cons_of_mem _ h))
    simp only [List.cons_append, List.isPrefixOf, Bool.and_eq_true, beq_iff_eq, List.cons.injEq]
    rw [ih]
end Go.Proofs.Ytcbebbiedegjlaa.Pm

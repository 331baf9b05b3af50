/- Certificates: 2^255 - 19 and the order of the base are primes. Printed by pratt.py. -/
import Derived.Test.YtglbnbdeoenilaaPrime
namespace Go.Proofs.Ytglbnbdeoenilaa
theorem prime_2 : Prime 2 := small_prime (by decide +kernel)
theorem prime_3 : Prime 3 := small_prime (by decide +kernel)
theorem prime_5 : Prime 5 := small_prime (by decide +kernel)
theorem prime_7 : Prime 7 := small_prime (by decide +kernel)
theorem prime_11 : Prime 11 := small_prime (by decide +kernel)
theorem prime_13 : Prime 13 := small_prime (by decide +kernel)
theorem prime_17 : Prime 17 := small_prime (by decide +kernel)
theorem prime_19 : Prime 19 := small_prime (by decide +kernel)
theorem prime_23 : Prime 23 := small_prime (by decide +kernel)
theorem prime_29 : Prime 29 := small_prime (by decide +kernel)
theorem prime_31 : Prime 31 := small_prime (by decide +kernel)
theorem prime_37 : Prime 37 := small_prime (by decide +kernel)
theorem prime_41 : Prime 41 := small_prime (by decide +kernel)
theorem prime_43 : Prime 43 := small_prime (by decide +kernel)
theorem prime_47 : Prime 47 := small_prime (by decide +kernel)
theorem prime_53 : Prime 53 := small_prime (by decide +kernel)
theorem prime_59 : Prime 59 := small_prime (by decide +kernel)
theorem prime_67 : Prime 67 := small_prime (by decide +kernel)
theorem prime_73 : Prime 73 := small_prime (by decide +kernel)
theorem prime_79 : Prime 79 := small_prime (by decide +kernel)
theorem prime_83 : Prime 83 := small_prime (by decide +kernel)
theorem prime_97 : Prime 97 := small_prime (by decide +kernel)
theorem cert_239 : certB 239 7 [2, 7, 17] = true := by decide +kernel
theorem parts_239 : ∀ x ∈ ([2, 7, 17] : List Nat), Prime x := by
  intro x hx
  simp only [List.mem_cons, List.not_mem_nil, or_false] at hx
  rcases hx with rfl | rfl | rfl
  · exact prime_2
  · exact prime_7
  · exact prime_17
theorem prime_239 : Prime 239 := cert_prime cert_239 parts_239
theorem cert_479 : certB 479 13 [2, 239] = true := by decide +kernel
theorem parts_479 : ∀ x ∈ ([2, 239] : List Nat), Prime x := by
  intro x hx
  simp only [List.mem_cons, List.not_mem_nil, or_false] at hx
  rcases hx with rfl | rfl
  · exact prime_2
  · exact prime_239
theorem prime_479 : Prime 479 := cert_prime cert_479 parts_479
theorem cert_32573 : certB 32573 2 [2, 2, 17, 479] = true := by decide +kernel
theorem parts_32573 : ∀ x ∈ ([2, 2, 17, 479] : List Nat), Prime x := by
  intro x hx
  simp only [List.mem_cons, List.not_mem_nil, or_false] at hx
  rcases hx with rfl | rfl | rfl | rfl
  · exact prime_2
  · exact prime_2
  · exact prime_17
  · exact prime_479
theorem prime_32573 : Prime 32573 := cert_prime cert_32573 parts_32573
theorem cert_65147 : certB 65147 2 [2, 32573] = true := by decide +kernel
theorem parts_65147 : ∀ x ∈ ([2, 32573] : List Nat), Prime x := by
  intro x hx
  simp only [List.mem_cons, List.not_mem_nil, or_false] at hx
  rcases hx with rfl | rfl
  · exact prime_2
  · exact prime_32573
theorem prime_65147 : Prime 65147 := cert_prime cert_65147 parts_65147
theorem cert_353 : certB 353 3 [2, 2, 2, 2, 2, 11] = true := by decide +kernel
theorem parts_353 : ∀ x ∈ ([2, 2, 2, 2, 2, 11] : List Nat), Prime x := by
  intro x hx
  simp only [List.mem_cons, List.not_mem_nil, or_false] at hx
  rcases hx with rfl | rfl | rfl | rfl | rfl | rfl
  · exact prime_2
  · exact prime_2
  · exact prime_2
  · exact prime_2
  · exact prime_2
  · exact prime_11
theorem prime_353 : Prime 353 := cert_prime cert_353 parts_353
theorem cert_487 : certB 487 3 [2, 3, 3, 3, 3, 3] = true := by decide +kernel
theorem parts_487 : ∀ x ∈ ([2, 3, 3, 3, 3, 3] : List Nat), Prime x := by
  intro x hx
  simp only [List.mem_cons, List.not_mem_nil, or_false] at hx
  rcases hx with rfl | rfl | rfl | rfl | rfl | rfl
  · exact prime_2
  · exact prime_3
  · exact prime_3
  · exact prime_3
  · exact prime_3
  · exact prime_3
theorem prime_487 : Prime 487 := cert_prime cert_487 parts_487
theorem cert_57467 : certB 57467 2 [2, 59, 487] = true := by decide +kernel
theorem parts_57467 : ∀ x ∈ ([2, 59, 487] : List Nat), Prime x := by
  intro x hx
  simp only [List.mem_cons, List.not_mem_nil, or_false] at hx
  rcases hx with rfl | rfl | rfl
  · exact prime_2
  · exact prime_59
  · exact prime_487
theorem prime_57467 : Prime 57467 := cert_prime cert_57467 parts_57467
theorem cert_131 : certB 131 2 [2, 5, 13] = true := by decide +kernel
theorem parts_131 : ∀ x ∈ ([2, 5, 13] : List Nat), Prime x := by
  intro x hx
  simp only [List.mem_cons, List.not_mem_nil, or_false] at hx
  rcases hx with rfl | rfl | rfl
  · exact prime_2
  · exact prime_5
  · exact prime_13
theorem prime_131 : Prime 131 := cert_prime cert_131 parts_131
theorem cert_132049 : certB 132049 26 [2, 2, 2, 2, 3, 3, 7, 131] = true := by decide +kernel
theorem parts_132049 : ∀ x ∈ ([2, 2, 2, 2, 3, 3, 7, 131] : List Nat), Prime x := by
  intro x hx
  simp only [List.mem_cons, List.not_mem_nil, or_false] at hx
  rcases hx with rfl | rfl | rfl | rfl | rfl | rfl | rfl | rfl
  · exact prime_2
  · exact prime_2
  · exact prime_2
  · exact prime_2
  · exact prime_3
  · exact prime_3
  · exact prime_7
  · exact prime_131
theorem prime_132049 : Prime 132049 := cert_prime cert_132049 parts_132049
theorem cert_3727 : certB 3727 3 [2, 3, 3, 3, 3, 23] = true := by decide +kernel
theorem parts_3727 : ∀ x ∈ ([2, 3, 3, 3, 3, 23] : List Nat), Prime x := by
  intro x hx
  simp only [List.mem_cons, List.not_mem_nil, or_false] at hx
  rcases hx with rfl | rfl | rfl | rfl | rfl | rfl
  · exact prime_2
  · exact prime_3
  · exact prime_3
  · exact prime_3
  · exact prime_3
  · exact prime_23
theorem prime_3727 : Prime 3727 := cert_prime cert_3727 parts_3727
theorem cert_1923133 : certB 1923133 2 [2, 2, 3, 43, 3727] = true := by decide +kernel
theorem parts_1923133 : ∀ x ∈ ([2, 2, 3, 43, 3727] : List Nat), Prime x := by
  intro x hx
  simp only [List.mem_cons, List.not_mem_nil, or_false] at hx
  rcases hx with rfl | rfl | rfl | rfl | rfl
  · exact prime_2
  · exact prime_2
  · exact prime_3
  · exact prime_43
  · exact prime_3727
theorem prime_1923133 : Prime 1923133 := cert_prime cert_1923133 parts_1923133
theorem cert_107 : certB 107 2 [2, 53] = true := by decide +kernel
theorem parts_107 : ∀ x ∈ ([2, 53] : List Nat), Prime x := by
  intro x hx
  simp only [List.mem_cons, List.not_mem_nil, or_false] at hx
  rcases hx with rfl | rfl
  · exact prime_2
  · exact prime_53
theorem prime_107 : Prime 107 := cert_prime cert_107 parts_107
theorem cert_223 : certB 223 3 [2, 3, 37] = true := by decide +kernel
theorem parts_223 : ∀ x ∈ ([2, 3, 37] : List Nat), Prime x := by
  intro x hx
  simp only [List.mem_cons, List.not_mem_nil, or_false] at hx
  rcases hx with rfl | rfl | rfl
  · exact prime_2
  · exact prime_3
  · exact prime_37
theorem prime_223 : Prime 223 := cert_prime cert_223 parts_223
theorem cert_173 : certB 173 2 [2, 2, 43] = true := by decide +kernel
theorem parts_173 : ∀ x ∈ ([2, 2, 43] : List Nat), Prime x := by
  intro x hx
  simp only [List.mem_cons, List.not_mem_nil, or_false] at hx
  rcases hx with rfl | rfl | rfl
  · exact prime_2
  · exact prime_2
  · exact prime_43
theorem prime_173 : Prime 173 := cert_prime cert_173 parts_173
theorem cert_4153 : certB 4153 5 [2, 2, 2, 3, 173] = true := by decide +kernel
theorem parts_4153 : ∀ x ∈ ([2, 2, 2, 3, 173] : List Nat), Prime x := by
  intro x hx
  simp only [List.mem_cons, List.not_mem_nil, or_false] at hx
  rcases hx with rfl | rfl | rfl | rfl | rfl
  · exact prime_2
  · exact prime_2
  · exact prime_2
  · exact prime_3
  · exact prime_173
theorem prime_4153 : Prime 4153 := cert_prime cert_4153 parts_4153
theorem cert_1723 : certB 1723 3 [2, 3, 7, 41] = true := by decide +kernel
theorem parts_1723 : ∀ x ∈ ([2, 3, 7, 41] : List Nat), Prime x := by
  intro x hx
  simp only [List.mem_cons, List.not_mem_nil, or_false] at hx
  rcases hx with rfl | rfl | rfl | rfl
  · exact prime_2
  · exact prime_3
  · exact prime_7
  · exact prime_41
theorem prime_1723 : Prime 1723 := cert_prime cert_1723 parts_1723
theorem cert_430751 : certB 430751 17 [2, 5, 5, 5, 1723] = true := by decide +kernel
theorem parts_430751 : ∀ x ∈ ([2, 5, 5, 5, 1723] : List Nat), Prime x := by
  intro x hx
  simp only [List.mem_cons, List.not_mem_nil, or_false] at hx
  rcases hx with rfl | rfl | rfl | rfl | rfl
  · exact prime_2
  · exact prime_5
  · exact prime_5
  · exact prime_5
  · exact prime_1723
theorem prime_430751 : Prime 430751 := cert_prime cert_430751 parts_430751
theorem cert_31757755568855353 : certB 31757755568855353 10 [2, 2, 2, 3, 31, 107, 223, 4153, 430751] = true := by decide +kernel
theorem parts_31757755568855353 : ∀ x ∈ ([2, 2, 2, 3, 31, 107, 223, 4153, 430751] : List Nat), Prime x := by
  intro x hx
  simp only [List.mem_cons, List.not_mem_nil, or_false] at hx
  rcases hx with rfl | rfl | rfl | rfl | rfl | rfl | rfl | rfl | rfl
  · exact prime_2
  · exact prime_2
  · exact prime_2
  · exact prime_3
  · exact prime_31
  · exact prime_107
  · exact prime_223
  · exact prime_4153
  · exact prime_430751
theorem prime_31757755568855353 : Prime 31757755568855353 := cert_prime cert_31757755568855353 parts_31757755568855353
theorem cert_9463 : certB 9463 3 [2, 3, 19, 83] = true := by decide +kernel
theorem parts_9463 : ∀ x ∈ ([2, 3, 19, 83] : List Nat), Prime x := by
  intro x hx
  simp only [List.mem_cons, List.not_mem_nil, or_false] at hx
  rcases hx with rfl | rfl | rfl | rfl
  · exact prime_2
  · exact prime_3
  · exact prime_19
  · exact prime_83
theorem prime_9463 : Prime 9463 := cert_prime cert_9463 parts_9463
theorem cert_37853 : certB 37853 2 [2, 2, 9463] = true := by decide +kernel
theorem parts_37853 : ∀ x ∈ ([2, 2, 9463] : List Nat), Prime x := by
  intro x hx
  simp only [List.mem_cons, List.not_mem_nil, or_false] at hx
  rcases hx with rfl | rfl | rfl
  · exact prime_2
  · exact prime_2
  · exact prime_9463
theorem prime_37853 : Prime 37853 := cert_prime cert_37853 parts_37853
theorem cert_75707 : certB 75707 2 [2, 37853] = true := by decide +kernel
theorem parts_75707 : ∀ x ∈ ([2, 37853] : List Nat), Prime x := by
  intro x hx
  simp only [List.mem_cons, List.not_mem_nil, or_false] at hx
  rcases hx with rfl | rfl
  · exact prime_2
  · exact prime_37853
theorem prime_75707 : Prime 75707 := cert_prime cert_75707 parts_75707
theorem cert_2437 : certB 2437 2 [2, 2, 3, 7, 29] = true := by decide +kernel
theorem parts_2437 : ∀ x ∈ ([2, 2, 3, 7, 29] : List Nat), Prime x := by
  intro x hx
  simp only [List.mem_cons, List.not_mem_nil, or_false] at hx
  rcases hx with rfl | rfl | rfl | rfl | rfl
  · exact prime_2
  · exact prime_2
  · exact prime_3
  · exact prime_7
  · exact prime_29
theorem prime_2437 : Prime 2437 := cert_prime cert_2437 parts_2437
theorem cert_419 : certB 419 2 [2, 11, 19] = true := by decide +kernel
theorem parts_419 : ∀ x ∈ ([2, 11, 19] : List Nat), Prime x := by
  intro x hx
  simp only [List.mem_cons, List.not_mem_nil, or_false] at hx
  rcases hx with rfl | rfl | rfl
  · exact prime_2
  · exact prime_11
  · exact prime_19
theorem prime_419 : Prime 419 := cert_prime cert_419 parts_419
theorem cert_569003 : certB 569003 2 [2, 7, 97, 419] = true := by decide +kernel
theorem parts_569003 : ∀ x ∈ ([2, 7, 97, 419] : List Nat), Prime x := by
  intro x hx
  simp only [List.mem_cons, List.not_mem_nil, or_false] at hx
  rcases hx with rfl | rfl | rfl | rfl
  · exact prime_2
  · exact prime_7
  · exact prime_97
  · exact prime_419
theorem prime_569003 : Prime 569003 := cert_prime cert_569003 parts_569003
theorem cert_2773320623 : certB 2773320623 5 [2, 2437, 569003] = true := by decide +kernel
theorem parts_2773320623 : ∀ x ∈ ([2, 2437, 569003] : List Nat), Prime x := by
  intro x hx
  simp only [List.mem_cons, List.not_mem_nil, or_false] at hx
  rcases hx with rfl | rfl | rfl
  · exact prime_2
  · exact prime_2437
  · exact prime_569003
theorem prime_2773320623 : Prime 2773320623 := cert_prime cert_2773320623 parts_2773320623
theorem cert_72106336199 : certB 72106336199 7 [2, 13, 2773320623] = true := by decide +kernel
theorem parts_72106336199 : ∀ x ∈ ([2, 13, 2773320623] : List Nat), Prime x := by
  intro x hx
  simp only [List.mem_cons, List.not_mem_nil, or_false] at hx
  rcases hx with rfl | rfl | rfl
  · exact prime_2
  · exact prime_13
  · exact prime_2773320623
theorem prime_72106336199 : Prime 72106336199 := cert_prime cert_72106336199 parts_72106336199
theorem cert_127 : certB 127 3 [2, 3, 3, 7] = true := by decide +kernel
theorem parts_127 : ∀ x ∈ ([2, 3, 3, 7] : List Nat), Prime x := by
  intro x hx
  simp only [List.mem_cons, List.not_mem_nil, or_false] at hx
  rcases hx with rfl | rfl | rfl | rfl
  · exact prime_2
  · exact prime_3
  · exact prime_3
  · exact prime_7
theorem prime_127 : Prime 127 := cert_prime cert_127 parts_127
theorem cert_103 : certB 103 5 [2, 3, 17] = true := by decide +kernel
theorem parts_103 : ∀ x ∈ ([2, 3, 17] : List Nat), Prime x := by
  intro x hx
  simp only [List.mem_cons, List.not_mem_nil, or_false] at hx
  rcases hx with rfl | rfl | rfl
  · exact prime_2
  · exact prime_3
  · exact prime_17
theorem prime_103 : Prime 103 := cert_prime cert_103 parts_103
theorem cert_991 : certB 991 6 [2, 3, 3, 5, 11] = true := by decide +kernel
theorem parts_991 : ∀ x ∈ ([2, 3, 3, 5, 11] : List Nat), Prime x := by
  intro x hx
  simp only [List.mem_cons, List.not_mem_nil, or_false] at hx
  rcases hx with rfl | rfl | rfl | rfl | rfl
  · exact prime_2
  · exact prime_3
  · exact prime_3
  · exact prime_5
  · exact prime_11
theorem prime_991 : Prime 991 := cert_prime cert_991 parts_991
theorem cert_8574133 : certB 8574133 2 [2, 2, 3, 7, 103, 991] = true := by decide +kernel
theorem parts_8574133 : ∀ x ∈ ([2, 2, 3, 7, 103, 991] : List Nat), Prime x := by
  intro x hx
  simp only [List.mem_cons, List.not_mem_nil, or_false] at hx
  rcases hx with rfl | rfl | rfl | rfl | rfl | rfl
  · exact prime_2
  · exact prime_2
  · exact prime_3
  · exact prime_7
  · exact prime_103
  · exact prime_991
theorem prime_8574133 : Prime 8574133 := cert_prime cert_8574133 parts_8574133
theorem cert_1919519569386763 : certB 1919519569386763 2 [2, 3, 7, 19, 47, 47, 127, 8574133] = true := by decide +kernel
theorem parts_1919519569386763 : ∀ x ∈ ([2, 3, 7, 19, 47, 47, 127, 8574133] : List Nat), Prime x := by
  intro x hx
  simp only [List.mem_cons, List.not_mem_nil, or_false] at hx
  rcases hx with rfl | rfl | rfl | rfl | rfl | rfl | rfl | rfl
  · exact prime_2
  · exact prime_3
  · exact prime_7
  · exact prime_19
  · exact prime_47
  · exact prime_47
  · exact prime_127
  · exact prime_8574133
theorem prime_1919519569386763 : Prime 1919519569386763 := cert_prime cert_1919519569386763 parts_1919519569386763
theorem cert_75445702479781427272750846543864801 : certB 75445702479781427272750846543864801 7 [2, 2, 2, 2, 2, 3, 3, 5, 5, 75707, 72106336199, 1919519569386763] = true := by decide +kernel
theorem parts_75445702479781427272750846543864801 : ∀ x ∈ ([2, 2, 2, 2, 2, 3, 3, 5, 5, 75707, 72106336199, 1919519569386763] : List Nat), Prime x := by
  intro x hx
  simp only [List.mem_cons, List.not_mem_nil, or_false] at hx
  rcases hx with rfl | rfl | rfl | rfl | rfl | rfl | rfl | rfl | rfl | rfl | rfl | rfl
  · exact prime_2
  · exact prime_2
  · exact prime_2
  · exact prime_2
  · exact prime_2
  · exact prime_3
  · exact prime_3
  · exact prime_5
  · exact prime_5
  · exact prime_75707
  · exact prime_72106336199
  · exact prime_1919519569386763
theorem prime_75445702479781427272750846543864801 : Prime 75445702479781427272750846543864801 := cert_prime cert_75445702479781427272750846543864801 parts_75445702479781427272750846543864801
theorem cert_74058212732561358302231226437062788676166966415465897661863160754340907 : certB 74058212732561358302231226437062788676166966415465897661863160754340907 2 [2, 3, 353, 57467, 132049, 1923133, 31757755568855353, 75445702479781427272750846543864801] = true := by decide +kernel
theorem parts_74058212732561358302231226437062788676166966415465897661863160754340907 : ∀ x ∈ ([2, 3, 353, 57467, 132049, 1923133, 31757755568855353, 75445702479781427272750846543864801] : List Nat), Prime x := by
  intro x hx
  simp only [List.mem_cons, List.not_mem_nil, or_false] at hx
  rcases hx with rfl | rfl | rfl | rfl | rfl | rfl | rfl | rfl
  · exact prime_2
  · exact prime_3
  · exact prime_353
  · exact prime_57467
  · exact prime_132049
  · exact prime_1923133
  · exact prime_31757755568855353
  · exact prime_75445702479781427272750846543864801
theorem prime_74058212732561358302231226437062788676166966415465897661863160754340907 : Prime 74058212732561358302231226437062788676166966415465897661863160754340907 := cert_prime cert_74058212732561358302231226437062788676166966415465897661863160754340907 parts_74058212732561358302231226437062788676166966415465897661863160754340907
theorem cert_57896044618658097711785492504343953926634992332820282019728792003956564819949 : certB 57896044618658097711785492504343953926634992332820282019728792003956564819949 2 [2, 2, 3, 65147, 74058212732561358302231226437062788676166966415465897661863160754340907] = true := by decide +kernel
theorem parts_57896044618658097711785492504343953926634992332820282019728792003956564819949 : ∀ x ∈ ([2, 2, 3, 65147, 74058212732561358302231226437062788676166966415465897661863160754340907] : List Nat), Prime x := by
  intro x hx
  simp only [List.mem_cons, List.not_mem_nil, or_false] at hx
  rcases hx with rfl | rfl | rfl | rfl | rfl
  · exact prime_2
  · exact prime_2
  · exact prime_3
  · exact prime_65147
  · exact prime_74058212732561358302231226437062788676166966415465897661863160754340907
theorem prime_57896044618658097711785492504343953926634992332820282019728792003956564819949 : Prime 57896044618658097711785492504343953926634992332820282019728792003956564819949 := cert_prime cert_57896044618658097711785492504343953926634992332820282019728792003956564819949 parts_57896044618658097711785492504343953926634992332820282019728792003956564819949
theorem cert_34123 : certB 34123 2 [2, 3, 11, 11, 47] = true := by decide +kernel
theorem parts_34123 : ∀ x ∈ ([2, 3, 11, 11, 47] : List Nat), Prime x := by
  intro x hx
  simp only [List.mem_cons, List.not_mem_nil, or_false] at hx
  rcases hx with rfl | rfl | rfl | rfl | rfl
  · exact prime_2
  · exact prime_3
  · exact prime_11
  · exact prime_11
  · exact prime_47
theorem prime_34123 : Prime 34123 := cert_prime cert_34123 parts_34123
theorem cert_409477 : certB 409477 2 [2, 2, 3, 34123] = true := by decide +kernel
theorem parts_409477 : ∀ x ∈ ([2, 2, 3, 34123] : List Nat), Prime x := by
  intro x hx
  simp only [List.mem_cons, List.not_mem_nil, or_false] at hx
  rcases hx with rfl | rfl | rfl | rfl
  · exact prime_2
  · exact prime_2
  · exact prime_3
  · exact prime_34123
theorem prime_409477 : Prime 409477 := cert_prime cert_409477 parts_409477
theorem cert_14741173 : certB 14741173 2 [2, 2, 3, 3, 409477] = true := by decide +kernel
theorem parts_14741173 : ∀ x ∈ ([2, 2, 3, 3, 409477] : List Nat), Prime x := by
  intro x hx
  simp only [List.mem_cons, List.not_mem_nil, or_false] at hx
  rcases hx with rfl | rfl | rfl | rfl | rfl
  · exact prime_2
  · exact prime_2
  · exact prime_3
  · exact prime_3
  · exact prime_409477
theorem prime_14741173 : Prime 14741173 := cert_prime cert_14741173 parts_14741173
theorem cert_58964693 : certB 58964693 2 [2, 2, 14741173] = true := by decide +kernel
theorem parts_58964693 : ∀ x ∈ ([2, 2, 14741173] : List Nat), Prime x := by
  intro x hx
  simp only [List.mem_cons, List.not_mem_nil, or_false] at hx
  rcases hx with rfl | rfl | rfl
  · exact prime_2
  · exact prime_2
  · exact prime_14741173
theorem prime_58964693 : Prime 58964693 := cert_prime cert_58964693 parts_58964693
theorem cert_30703 : certB 30703 3 [2, 3, 7, 17, 43] = true := by decide +kernel
theorem parts_30703 : ∀ x ∈ ([2, 3, 7, 17, 43] : List Nat), Prime x := by
  intro x hx
  simp only [List.mem_cons, List.not_mem_nil, or_false] at hx
  rcases hx with rfl | rfl | rfl | rfl | rfl
  · exact prime_2
  · exact prime_3
  · exact prime_7
  · exact prime_17
  · exact prime_43
theorem prime_30703 : Prime 30703 := cert_prime cert_30703 parts_30703
theorem cert_41081 : certB 41081 3 [2, 2, 2, 5, 13, 79] = true := by decide +kernel
theorem parts_41081 : ∀ x ∈ ([2, 2, 2, 5, 13, 79] : List Nat), Prime x := by
  intro x hx
  simp only [List.mem_cons, List.not_mem_nil, or_false] at hx
  rcases hx with rfl | rfl | rfl | rfl | rfl | rfl
  · exact prime_2
  · exact prime_2
  · exact prime_2
  · exact prime_5
  · exact prime_13
  · exact prime_79
theorem prime_41081 : Prime 41081 := cert_prime cert_41081 parts_41081
theorem cert_82163 : certB 82163 2 [2, 41081] = true := by decide +kernel
theorem parts_82163 : ∀ x ∈ ([2, 41081] : List Nat), Prime x := by
  intro x hx
  simp only [List.mem_cons, List.not_mem_nil, or_false] at hx
  rcases hx with rfl | rfl
  · exact prime_2
  · exact prime_41081
theorem prime_82163 : Prime 82163 := cert_prime cert_82163 parts_82163
theorem cert_22111 : certB 22111 6 [2, 3, 5, 11, 67] = true := by decide +kernel
theorem parts_22111 : ∀ x ∈ ([2, 3, 5, 11, 67] : List Nat), Prime x := by
  intro x hx
  simp only [List.mem_cons, List.not_mem_nil, or_false] at hx
  rcases hx with rfl | rfl | rfl | rfl | rfl
  · exact prime_2
  · exact prime_3
  · exact prime_5
  · exact prime_11
  · exact prime_67
theorem prime_22111 : Prime 22111 := cert_prime cert_22111 parts_22111
theorem cert_132667 : certB 132667 5 [2, 3, 22111] = true := by decide +kernel
theorem parts_132667 : ∀ x ∈ ([2, 3, 22111] : List Nat), Prime x := by
  intro x hx
  simp only [List.mem_cons, List.not_mem_nil, or_false] at hx
  rcases hx with rfl | rfl | rfl
  · exact prime_2
  · exact prime_3
  · exact prime_22111
theorem prime_132667 : Prime 132667 := cert_prime cert_132667 parts_132667
theorem cert_17231 : certB 17231 13 [2, 5, 1723] = true := by decide +kernel
theorem parts_17231 : ∀ x ∈ ([2, 5, 1723] : List Nat), Prime x := by
  intro x hx
  simp only [List.mem_cons, List.not_mem_nil, or_false] at hx
  rcases hx with rfl | rfl | rfl
  · exact prime_2
  · exact prime_5
  · exact prime_1723
theorem prime_17231 : Prime 17231 := cert_prime cert_17231 parts_17231
theorem cert_137849 : certB 137849 3 [2, 2, 2, 17231] = true := by decide +kernel
theorem parts_137849 : ∀ x ∈ ([2, 2, 2, 17231] : List Nat), Prime x := by
  intro x hx
  simp only [List.mem_cons, List.not_mem_nil, or_false] at hx
  rcases hx with rfl | rfl | rfl | rfl
  · exact prime_2
  · exact prime_2
  · exact prime_2
  · exact prime_17231
theorem prime_137849 : Prime 137849 := cert_prime cert_137849 parts_137849
theorem cert_3044861653679985063343 : certB 3044861653679985063343 5 [2, 3, 11, 30703, 82163, 132667, 137849] = true := by decide +kernel
theorem parts_3044861653679985063343 : ∀ x ∈ ([2, 3, 11, 30703, 82163, 132667, 137849] : List Nat), Prime x := by
  intro x hx
  simp only [List.mem_cons, List.not_mem_nil, or_false] at hx
  rcases hx with rfl | rfl | rfl | rfl | rfl | rfl | rfl
  · exact prime_2
  · exact prime_3
  · exact prime_11
  · exact prime_30703
  · exact prime_82163
  · exact prime_132667
  · exact prime_137849
theorem prime_3044861653679985063343 : Prime 3044861653679985063343 := cert_prime cert_3044861653679985063343 parts_3044861653679985063343
theorem cert_198211423230930754013084525763697 : certB 198211423230930754013084525763697 5 [2, 2, 2, 2, 3, 23, 58964693, 3044861653679985063343] = true := by decide +kernel
theorem parts_198211423230930754013084525763697 : ∀ x ∈ ([2, 2, 2, 2, 3, 23, 58964693, 3044861653679985063343] : List Nat), Prime x := by
  intro x hx
  simp only [List.mem_cons, List.not_mem_nil, or_false] at hx
  rcases hx with rfl | rfl | rfl | rfl | rfl | rfl | rfl | rfl
  · exact prime_2
  · exact prime_2
  · exact prime_2
  · exact prime_2
  · exact prime_3
  · exact prime_23
  · exact prime_58964693
  · exact prime_3044861653679985063343
theorem prime_198211423230930754013084525763697 : Prime 198211423230930754013084525763697 := cert_prime cert_198211423230930754013084525763697 parts_198211423230930754013084525763697
theorem cert_269 : certB 269 2 [2, 2, 67] = true := by decide +kernel
theorem parts_269 : ∀ x ∈ ([2, 2, 67] : List Nat), Prime x := by
  intro x hx
  simp only [List.mem_cons, List.not_mem_nil, or_false] at hx
  rcases hx with rfl | rfl | rfl
  · exact prime_2
  · exact prime_2
  · exact prime_67
theorem prime_269 : Prime 269 := cert_prime cert_269 parts_269
theorem cert_307 : certB 307 5 [2, 3, 3, 17] = true := by decide +kernel
theorem parts_307 : ∀ x ∈ ([2, 3, 3, 17] : List Nat), Prime x := by
  intro x hx
  simp only [List.mem_cons, List.not_mem_nil, or_false] at hx
  rcases hx with rfl | rfl | rfl | rfl
  · exact prime_2
  · exact prime_3
  · exact prime_3
  · exact prime_17
theorem prime_307 : Prime 307 := cert_prime cert_307 parts_307
theorem cert_113 : certB 113 3 [2, 2, 2, 2, 7] = true := by decide +kernel
theorem parts_113 : ∀ x ∈ ([2, 2, 2, 2, 7] : List Nat), Prime x := by
  intro x hx
  simp only [List.mem_cons, List.not_mem_nil, or_false] at hx
  rcases hx with rfl | rfl | rfl | rfl | rfl
  · exact prime_2
  · exact prime_2
  · exact prime_2
  · exact prime_2
  · exact prime_7
theorem prime_113 : Prime 113 := cert_prime cert_113 parts_113
theorem cert_2939 : certB 2939 2 [2, 13, 113] = true := by decide +kernel
theorem parts_2939 : ∀ x ∈ ([2, 13, 113] : List Nat), Prime x := by
  intro x hx
  simp only [List.mem_cons, List.not_mem_nil, or_false] at hx
  rcases hx with rfl | rfl | rfl
  · exact prime_2
  · exact prime_13
  · exact prime_113
theorem prime_2939 : Prime 2939 := cert_prime cert_2939 parts_2939
theorem cert_5879 : certB 5879 11 [2, 2939] = true := by decide +kernel
theorem parts_5879 : ∀ x ∈ ([2, 2939] : List Nat), Prime x := by
  intro x hx
  simp only [List.mem_cons, List.not_mem_nil, or_false] at hx
  rcases hx with rfl | rfl
  · exact prime_2
  · exact prime_2939
theorem prime_5879 : Prime 5879 := cert_prime cert_5879 parts_5879
theorem cert_292386187 : certB 292386187 2 [2, 3, 3, 3, 3, 307, 5879] = true := by decide +kernel
theorem parts_292386187 : ∀ x ∈ ([2, 3, 3, 3, 3, 307, 5879] : List Nat), Prime x := by
  intro x hx
  simp only [List.mem_cons, List.not_mem_nil, or_false] at hx
  rcases hx with rfl | rfl | rfl | rfl | rfl | rfl | rfl
  · exact prime_2
  · exact prime_3
  · exact prime_3
  · exact prime_3
  · exact prime_3
  · exact prime_307
  · exact prime_5879
theorem prime_292386187 : Prime 292386187 := cert_prime cert_292386187 parts_292386187
theorem cert_213441916511 : certB 213441916511 13 [2, 5, 73, 292386187] = true := by decide +kernel
theorem parts_213441916511 : ∀ x ∈ ([2, 5, 73, 292386187] : List Nat), Prime x := by
  intro x hx
  simp only [List.mem_cons, List.not_mem_nil, or_false] at hx
  rcases hx with rfl | rfl | rfl | rfl
  · exact prime_2
  · exact prime_5
  · exact prime_73
  · exact prime_292386187
theorem prime_213441916511 : Prime 213441916511 := cert_prime cert_213441916511 parts_213441916511
theorem cert_1361 : certB 1361 3 [2, 2, 2, 2, 5, 17] = true := by decide +kernel
theorem parts_1361 : ∀ x ∈ ([2, 2, 2, 2, 5, 17] : List Nat), Prime x := by
  intro x hx
  simp only [List.mem_cons, List.not_mem_nil, or_false] at hx
  rcases hx with rfl | rfl | rfl | rfl | rfl | rfl
  · exact prime_2
  · exact prime_2
  · exact prime_2
  · exact prime_2
  · exact prime_5
  · exact prime_17
theorem prime_1361 : Prime 1361 := cert_prime cert_1361 parts_1361
theorem cert_2851 : certB 2851 2 [2, 3, 5, 5, 19] = true := by decide +kernel
theorem parts_2851 : ∀ x ∈ ([2, 3, 5, 5, 19] : List Nat), Prime x := by
  intro x hx
  simp only [List.mem_cons, List.not_mem_nil, or_false] at hx
  rcases hx with rfl | rfl | rfl | rfl | rfl
  · exact prime_2
  · exact prime_3
  · exact prime_5
  · exact prime_5
  · exact prime_19
theorem prime_2851 : Prime 2851 := cert_prime cert_2851 parts_2851
theorem cert_3797 : certB 3797 2 [2, 2, 13, 73] = true := by decide +kernel
theorem parts_3797 : ∀ x ∈ ([2, 2, 13, 73] : List Nat), Prime x := by
  intro x hx
  simp only [List.mem_cons, List.not_mem_nil, or_false] at hx
  rcases hx with rfl | rfl | rfl | rfl
  · exact prime_2
  · exact prime_2
  · exact prime_13
  · exact prime_73
theorem prime_3797 : Prime 3797 := cert_prime cert_3797 parts_3797
theorem cert_531581 : certB 531581 2 [2, 2, 5, 7, 3797] = true := by decide +kernel
theorem parts_531581 : ∀ x ∈ ([2, 2, 5, 7, 3797] : List Nat), Prime x := by
  intro x hx
  simp only [List.mem_cons, List.not_mem_nil, or_false] at hx
  rcases hx with rfl | rfl | rfl | rfl | rfl
  · exact prime_2
  · exact prime_2
  · exact prime_5
  · exact prime_7
  · exact prime_3797
theorem prime_531581 : Prime 531581 := cert_prime cert_531581 parts_531581
theorem cert_2551 : certB 2551 6 [2, 3, 5, 5, 17] = true := by decide +kernel
theorem parts_2551 : ∀ x ∈ ([2, 3, 5, 5, 17] : List Nat), Prime x := by
  intro x hx
  simp only [List.mem_cons, List.not_mem_nil, or_false] at hx
  rcases hx with rfl | rfl | rfl | rfl | rfl
  · exact prime_2
  · exact prime_3
  · exact prime_5
  · exact prime_5
  · exact prime_17
theorem prime_2551 : Prime 2551 := cert_prime cert_2551 parts_2551
theorem cert_1224481 : certB 1224481 13 [2, 2, 2, 2, 2, 3, 5, 2551] = true := by decide +kernel
theorem parts_1224481 : ∀ x ∈ ([2, 2, 2, 2, 2, 3, 5, 2551] : List Nat), Prime x := by
  intro x hx
  simp only [List.mem_cons, List.not_mem_nil, or_false] at hx
  rcases hx with rfl | rfl | rfl | rfl | rfl | rfl | rfl | rfl
  · exact prime_2
  · exact prime_2
  · exact prime_2
  · exact prime_2
  · exact prime_2
  · exact prime_3
  · exact prime_5
  · exact prime_2551
theorem prime_1224481 : Prime 1224481 := cert_prime cert_1224481 parts_1224481
theorem cert_1257559732178653 : certB 1257559732178653 2 [2, 2, 3, 7, 23, 531581, 1224481] = true := by decide +kernel
theorem parts_1257559732178653 : ∀ x ∈ ([2, 2, 3, 7, 23, 531581, 1224481] : List Nat), Prime x := by
  intro x hx
  simp only [List.mem_cons, List.not_mem_nil, or_false] at hx
  rcases hx with rfl | rfl | rfl | rfl | rfl | rfl | rfl
  · exact prime_2
  · exact prime_2
  · exact prime_3
  · exact prime_7
  · exact prime_23
  · exact prime_531581
  · exact prime_1224481
theorem prime_1257559732178653 : Prime 1257559732178653 := cert_prime cert_1257559732178653 parts_1257559732178653
theorem cert_4434155615661930479 : certB 4434155615661930479 17 [2, 41, 43, 1257559732178653] = true := by decide +kernel
theorem parts_4434155615661930479 : ∀ x ∈ ([2, 41, 43, 1257559732178653] : List Nat), Prime x := by
  intro x hx
  simp only [List.mem_cons, List.not_mem_nil, or_false] at hx
  rcases hx with rfl | rfl | rfl | rfl
  · exact prime_2
  · exact prime_41
  · exact prime_43
  · exact prime_1257559732178653
theorem prime_4434155615661930479 : Prime 4434155615661930479 := cert_prime cert_4434155615661930479 parts_4434155615661930479
theorem cert_172054593956031949258510691 : certB 172054593956031949258510691 2 [2, 5, 1361, 2851, 4434155615661930479] = true := by decide +kernel
theorem parts_172054593956031949258510691 : ∀ x ∈ ([2, 5, 1361, 2851, 4434155615661930479] : List Nat), Prime x := by
  intro x hx
  simp only [List.mem_cons, List.not_mem_nil, or_false] at hx
  rcases hx with rfl | rfl | rfl | rfl | rfl
  · exact prime_2
  · exact prime_5
  · exact prime_1361
  · exact prime_2851
  · exact prime_4434155615661930479
theorem prime_172054593956031949258510691 : Prime 172054593956031949258510691 := cert_prime cert_172054593956031949258510691 parts_172054593956031949258510691
theorem cert_19757330305831588566944191468367130476339 : certB 19757330305831588566944191468367130476339 2 [2, 269, 213441916511, 172054593956031949258510691] = true := by decide +kernel
theorem parts_19757330305831588566944191468367130476339 : ∀ x ∈ ([2, 269, 213441916511, 172054593956031949258510691] : List Nat), Prime x := by
  intro x hx
  simp only [List.mem_cons, List.not_mem_nil, or_false] at hx
  rcases hx with rfl | rfl | rfl | rfl
  · exact prime_2
  · exact prime_269
  · exact prime_213441916511
  · exact prime_172054593956031949258510691
theorem prime_19757330305831588566944191468367130476339 : Prime 19757330305831588566944191468367130476339 := cert_prime cert_19757330305831588566944191468367130476339 parts_19757330305831588566944191468367130476339
theorem cert_276602624281642239937218680557139826668747 : certB 276602624281642239937218680557139826668747 2 [2, 7, 19757330305831588566944191468367130476339] = true := by decide +kernel
theorem parts_276602624281642239937218680557139826668747 : ∀ x ∈ ([2, 7, 19757330305831588566944191468367130476339] : List Nat), Prime x := by
  intro x hx
  simp only [List.mem_cons, List.not_mem_nil, or_false] at hx
  rcases hx with rfl | rfl | rfl
  · exact prime_2
  · exact prime_7
  · exact prime_19757330305831588566944191468367130476339
theorem prime_276602624281642239937218680557139826668747 : Prime 276602624281642239937218680557139826668747 := cert_prime cert_276602624281642239937218680557139826668747 parts_276602624281642239937218680557139826668747
theorem cert_7237005577332262213973186563042994240857116359379907606001950938285454250989 : certB 7237005577332262213973186563042994240857116359379907606001950938285454250989 2 [2, 2, 3, 11, 198211423230930754013084525763697, 276602624281642239937218680557139826668747] = true := by decide +kernel
theorem parts_7237005577332262213973186563042994240857116359379907606001950938285454250989 : ∀ x ∈ ([2, 2, 3, 11, 198211423230930754013084525763697, 276602624281642239937218680557139826668747] : List Nat), Prime x := by
  intro x hx
  simp only [List.mem_cons, List.not_mem_nil, or_false] at hx
  rcases hx with rfl | rfl | rfl | rfl | rfl | rfl
  · exact prime_2
  · exact prime_2
  · exact prime_3
  · exact prime_11
  · exact prime_198211423230930754013084525763697
  · exact prime_276602624281642239937218680557139826668747
theorem prime_7237005577332262213973186563042994240857116359379907606001950938285454250989 : Prime 7237005577332262213973186563042994240857116359379907606001950938285454250989 := cert_prime cert_7237005577332262213973186563042994240857116359379907606001950938285454250989 parts_7237005577332262213973186563042994240857116359379907606001950938285454250989
theorem ord_P : IsOrd 57896044618658097711785492504343953926634992332820282019728792003956564819949 2 (57896044618658097711785492504343953926634992332820282019728792003956564819949 - 1) := cert_ord cert_57896044618658097711785492504343953926634992332820282019728792003956564819949 parts_57896044618658097711785492504343953926634992332820282019728792003956564819949
theorem prime_P : Prime 57896044618658097711785492504343953926634992332820282019728792003956564819949 := prime_57896044618658097711785492504343953926634992332820282019728792003956564819949
theorem prime_L : Prime 7237005577332262213973186563042994240857116359379907606001950938285454250989 := prime_7237005577332262213973186563042994240857116359379907606001950938285454250989
end Go.Proofs.Ytglbnbdeoenilaa

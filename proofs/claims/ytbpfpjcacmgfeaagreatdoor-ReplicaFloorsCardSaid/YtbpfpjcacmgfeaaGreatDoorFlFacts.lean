/- The closed facts of the row of ReplicaFloors: each by the kernel alone; no condition. -/
import Derived.Test.YtbpfpjcacmgfeaaGreatDoorRows
import Derived.JoinedOf
import Derived.KernelRfl
import GoSem.ClaimSeven
set_option linter.unusedVariables false
set_option linter.unusedSimpArgs false
namespace Go.Proofs.YtbpfpjcacmgfeaaGreatDoor
open Go
theorem replicaFloors_clo : Tryz.prog.closure 3 = [3, 6, 16, 17, 36, 77, 78, 95, 37, 38, 39, 40, 79, 80, 41, 82, 81, 135, 19, 44, 86, 103, 137, 87, 138, 186, 189, 117, 187, 241, 188, 90, 140, 91, 190, 43, 83, 136, 110, 163, 164, 144, 
  195, 221, 222, 206, 207, 248, 199, 162, 258, 249, 250, 223, 224, 194, 225, 226, 259, 260, 145, 165, 227, 228, 261, 297, 262, 109, 143, 12, 53, 65, 68, 122, 178, 179, 123, 180, 124, 125, 
  181, 182, 183, 184, 239, 240, 126, 127, 111, 35, 104, 105, 153, 172, 232, 269, 231, 267, 301, 268, 244, 289, 290, 302, 356, 357, 395, 358, 317, 318, 359, 396, 397, 418, 360, 361, 362, 
  363, 155, 205, 247, 204, 152, 203, 150, 201, 246, 293, 245, 291, 321, 292, 322, 373, 379, 300, 374, 411, 375, 376, 412, 413, 432, 377, 378, 380, 381, 156, 154, 98, 107, 157, 158, 208, 
  113, 169, 160, 92, 142, 193, 141, 191, 242, 192, 243, 280, 286, 281, 316, 282, 283, 319, 320, 372, 284, 285, 287, 288, 120, 161, 220, 257, 159, 209, 210, 252, 251, 294, 323, 324, 382, 
  325, 326, 383, 384, 414, 327, 328, 329, 330, 211, 212, 213, 167, 119, 177, 214, 254, 253, 295, 331, 332, 385, 333, 334, 386, 387, 415, 335, 336, 337, 338, 215, 216, 217, 256, 255, 296, 
  339, 340, 388, 341, 342, 389, 390, 416, 343, 344, 345, 346, 218, 219, 84, 114, 115, 85, 118, 22, 170, 229, 233, 230, 263, 298, 347, 391, 264, 299, 348, 349, 392, 350, 351, 393, 394, 
  417, 352, 353, 354, 355, 265, 266, 171, 101, 173, 174, 175, 176, 234, 235, 236, 270, 303, 364, 398, 399, 419, 400, 401, 420, 421, 433, 402, 403, 404, 405, 304, 305, 365, 306, 366, 406, 
  422, 423, 434, 444, 367, 271, 307, 368, 407, 424, 425, 435, 408, 426, 409, 427, 436, 445, 437, 438, 439, 446, 272, 308, 369, 410, 428, 429, 440, 441, 430, 431, 442, 443, 447, 448, 273, 
  274, 309, 370, 275, 311, 310, 371, 312, 276, 313, 277, 314, 278, 279, 315, 237, 238, 27, 7, 8, 24, 47, 49, 48, 50, 51, 52, 93, 94, 146, 139, 54, 96, 46, 97, 26, 25, 55, 99, 66, 56, 100, 
  147, 196, 197, 198, 108, 148, 57, 63, 28, 102, 149, 200, 151, 202, 58, 59, 106, 60, 112, 166, 168, 121, 61, 116, 62, 64, 67, 9, 10, 11, 29, 32, 33, 70, 31, 69, 128, 129, 13, 30] := by kernel_rfl
theorem replicaFloors_inPlace : (Rows.replicaFloorsRow.inPlace == Tryz.prog.inPlace 3) = true := by
  unfold Program.inPlace; rw [replicaFloors_clo]; kernel_rfl
theorem replicaFloors_unf : Tryz.prog.unfollowed 3 = true := by
  unfold Program.unfollowed; rw [replicaFloors_clo]; kernel_rfl
theorem replicaFloors_rec : Tryz.prog.recurses 3 = true := by
  unfold Program.recurses; rw [replicaFloors_unf]; rfl
theorem replicaFloors_named : (Rows.replicaFloorsRow.named == Tryz.prog.varsNamed 3) = true := by
  unfold Program.varsNamed; rw [replicaFloors_clo]; kernel_rfl
theorem replicaFloors_none : Tryz.prog.funcs.any Func.goes = false := by kernel_rfl
theorem replicaFloors_goes : false = Rows.replicaFloorsRow.goesBy Tryz.prog := by
  have h1 : ((Tryz.prog.closure 3).any fun g => (Tryz.prog.funcs[g]?).any Func.goes) = false := by
    rw [List.any_eq_false]
    intro g _ hg
    rw [Option.any_eq_true] at hg
    obtain ⟨f, hf, hh⟩ := hg
    have := replicaFloors_none
    rw [Array.any_eq_false] at this
    rw [Array.getElem?_eq_some_iff] at hf
    obtain ⟨hlt, rfl⟩ := hf
    exact this g hlt hh
  have h2 : Tryz.prog.goes 3 = false := by unfold Program.goes; rw [h1, replicaFloors_none]; cases Tryz.prog.unfollowed 3 <;> rfl
  have h3 : Tryz.prog.funcNamed "gavel/gavellaw20.ReplicaFloors" = some 3 := by kernel_rfl
  show false = (((Tryz.prog.funcNamed "gavel/gavellaw20.ReplicaFloors").any Tryz.prog.goes) || false)
  rw [h3, Option.any_some, h2]
  rfl
theorem replicaFloors_andOf {a b : Bool} (h : a = true) (k : b = true) : (a && b) = true := by rw [h, k]; rfl
set_option maxHeartbeats 8000000 in
theorem replicaFloors_facts : joinedFacts Tryz.prog 3 Tryz.f3 Rows.replicaFloorsSpec Rows.replicaFloorsRow = true := by
  unfold joinedFacts
  repeat' with_reducible refine replicaFloors_andOf ?_ ?_
  all_goals first
    | with_reducible exact replicaFloors_inPlace
    | with_reducible exact replicaFloors_named
    | (rw [replicaFloors_unf]; rfl)
    | (rw [replicaFloors_rec]; rfl)
    | as_aux_lemma => kernel_rfl
end Go.Proofs.YtbpfpjcacmgfeaaGreatDoor

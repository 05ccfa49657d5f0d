/- Proved: closed facts of the row of FlowKnown (which functions its call can come to, and what the row says of them); no condition. -/
import Derived.Test.YtendljmmbdiedaaGreatDoorCards
import Derived.Test.YtendljmmbdiedaaGreatDoorEvD
import Derived.JoinedCond
import Derived.KernelRfl
namespace Go.Proofs.YtendljmmbdiedaaGreatDoor.flowKnown
open Go
set_option maxRecDepth 100000
theorem fClosure : Tryz.prog.closure 3 = [3, 4, 9, 20, 21, 52, 108, 22, 53, 54, 23, 10, 24, 25, 55, 109, 111, 134, 110, 172, 238, 112, 175, 176, 174, 240, 196, 252, 314, 315, 316, 374, 114, 28, 70, 135, 137, 197, 253, 138, 113, 177, 241, 317, 239, 313, 178, 115, 125, 117, 69, 136, 179, 186, 180, 71, 72, 139, 242, 319, 318, 73, 181, 243, 244, 320, 375, 56, 116, 118, 182, 245, 119, 183, 246, 120, 184, 247, 121, 185, 248, 122, 123, 187, 57, 124, 58, 59, 127, 126, 171, 237, 188, 29, 60, 44, 75, 92, 93, 94, 61, 128, 62, 129, 130, 189, 190, 249, 321, 63, 131, 191, 192, 250, 322, 64, 132, 193, 27, 31, 74, 133, 194, 195, 251, 323, 65, 46, 101, 102, 103, 66, 67, 68, 48, 104, 26, 11, 30, 32, 77, 142, 76, 140, 198, 141, 200, 263, 264, 199, 254, 260, 329, 255, 324, 256, 325, 326, 257, 327, 328, 376, 258, 259, 261, 262, 33, 5, 8, 16, 41, 43, 42, 91, 17, 45, 95, 86, 99, 96, 97, 85, 166, 165, 98, 100, 18, 19, 47, 49, 105, 50, 106, 173, 51, 107, 84, 159, 201, 265, 330, 377, 418, 331, 378, 379, 266, 332, 267, 268, 224, 290, 160, 225, 291, 348, 392, 349, 393, 350, 351, 394, 226, 292, 293, 352, 396, 425, 426, 442, 454, 455, 395, 422, 427, 440, 423, 441, 424, 353, 397, 398, 400, 399, 294, 295, 296, 354, 297, 298, 299, 355, 401, 161, 227, 300, 356, 301, 302, 303, 304, 163, 228, 162, 229, 305, 357, 402, 306, 308, 358, 359, 403, 232, 233, 428, 443, 456, 457, 461, 462, 409, 433, 309, 307, 230, 231, 310, 360, 361, 362, 364, 363, 404, 429, 444, 430, 405, 406, 431, 407, 432, 365, 366, 408, 411, 410, 434, 412, 435, 445, 451, 446, 458, 447, 448, 459, 460, 463, 449, 450, 452, 453, 367, 164, 13, 14, 37, 80, 78, 144, 81, 79, 143, 202, 203, 269, 204, 270, 271, 333, 145, 147, 208, 207, 205, 272, 334, 380, 419, 439, 420, 384, 381, 382, 335, 383, 336, 385, 157, 220, 274, 273, 337, 206, 275, 338, 82, 146, 148, 149, 150, 151, 209, 211, 210, 212, 152, 213, 214, 153, 155, 215, 276, 277, 278, 279, 280, 281, 282, 283, 216, 217, 284, 339, 285, 340, 156, 219, 386, 387, 421, 388, 341, 389, 343, 391, 342, 390, 344, 286, 154, 218, 83, 36, 158, 221, 287, 222, 288, 345, 346, 347, 289, 223, 38, 12, 15, 39, 87, 167, 169, 168, 170, 236, 312, 370, 371, 414, 415, 372, 373, 416, 417, 437, 438, 234, 311, 368, 369, 413, 436, 235, 88, 89, 90, 40, 34, 35, 6, 7] := by rw [Ev.closure_fast]; kernel_rfl
theorem fInPlace : Tryz.prog.inPlace 3 = Rows.flowKnownRow.inPlace := by unfold Program.inPlace; rw [fClosure]; kernel_rfl
theorem fUnfollowed : Tryz.prog.unfollowed 3 = true := by unfold Program.unfollowed; rw [fClosure]; kernel_rfl
theorem fRecurses : Tryz.prog.recurses 3 = true := by unfold Program.recurses; rw [fUnfollowed]; rfl
theorem fNamed : Tryz.prog.varsNamed 3 = Rows.flowKnownRow.named := by unfold Program.varsNamed; rw [fClosure]; kernel_rfl
theorem fLaid : laidOutB Tryz.prog = true := by kernel_rfl
theorem fMaps : mapsRowed Tryz.prog = true := by kernel_rfl
theorem fKeys : Tryz.prog.plainKeys = Rows.flowKnownRow.plainKeys := by kernel_rfl
theorem fLifts : Tryz.prog.liftsFinal = Rows.flowKnownRow.lifted := by kernel_rfl
theorem fMake : Tryz.prog.make = some Rows.flowKnownRow.make := by kernel_rfl
theorem fHeard : Tryz.prog.stopsHeard = true := by kernel_rfl
theorem facts : joinedFacts Tryz.prog 3 Tryz.f3 (OpenSpec.ofChange Rows.flowKnownSpec).bare Rows.flowKnownRow = true := by unfold joinedFacts; rw [fLaid, fMaps, fInPlace, fUnfollowed, fRecurses, fNamed, fKeys, fHeard, fLifts, fMake]; kernel_rfl
end Go.Proofs.YtendljmmbdiedaaGreatDoor.flowKnown

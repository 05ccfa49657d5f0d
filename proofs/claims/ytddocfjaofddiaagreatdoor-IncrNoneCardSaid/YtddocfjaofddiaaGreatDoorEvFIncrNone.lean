/- Proved: closed facts of the row of IncrNone (which functions its call can come to, and what the row says of them); no condition. -/
import Derived.Test.YtddocfjaofddiaaGreatDoorCards
import Derived.Test.YtddocfjaofddiaaGreatDoorEvD
import Derived.JoinedCond
import Derived.KernelRfl
import Derived.Test.YtddocfjaofddiaaGreatDoorEvH
namespace Go.Proofs.YtddocfjaofddiaaGreatDoor.incrNone
open Go
set_option maxRecDepth 100000
theorem fClosure : Tryz.prog.closure 3 = [3, 5, 6, 24, 25, 48, 49, 83, 84, 132, 85, 133, 86, 134, 135, 78, 87, 88, 89, 90, 91, 50, 26, 51, 52, 43, 27, 53, 92, 136, 204, 206, 205, 284, 367, 207, 285, 286, 287, 368, 362, 424, 437, 438, 439, 492, 209, 118, 191, 265, 267, 363, 425, 268, 208, 288, 369, 440, 409, 473, 289, 210, 220, 212, 190, 266, 290, 201, 283, 297, 291, 192, 269, 370, 442, 441, 193, 203, 292, 371, 372, 443, 493, 137, 211, 213, 293, 373, 214, 294, 374, 215, 295, 375, 216, 296, 376, 217, 218, 298, 138, 202, 219, 139, 140, 222, 221, 299, 377, 300, 119, 141, 199, 274, 275, 276, 142, 223, 143, 224, 225, 301, 302, 378, 444, 144, 226, 303, 304, 379, 445, 145, 227, 305, 117, 121, 228, 306, 307, 380, 446, 146, 108, 173, 174, 175, 147, 148, 149, 164, 245, 29, 36, 72, 120, 122, 195, 272, 194, 270, 364, 271, 366, 435, 436, 365, 426, 432, 491, 427, 486, 428, 487, 488, 429, 489, 490, 518, 430, 431, 433, 434, 123, 56, 57, 93, 150, 151, 152, 94, 95, 153, 229, 308, 381, 447, 494, 382, 448, 449, 309, 383, 310, 311, 230, 312, 154, 231, 313, 384, 450, 385, 451, 386, 387, 452, 232, 314, 315, 388, 454, 498, 499, 521, 539, 540, 453, 495, 500, 519, 496, 520, 497, 389, 455, 457, 456, 316, 317, 318, 390, 319, 320, 321, 391, 458, 155, 233, 322, 392, 323, 324, 325, 326, 157, 234, 156, 235, 327, 393, 459, 328, 330, 394, 395, 460, 238, 239, 501, 522, 541, 542, 549, 550, 466, 506, 331, 329, 236, 237, 332, 396, 397, 398, 400, 399, 461, 502, 523, 503, 462, 463, 504, 464, 505, 401, 402, 465, 468, 467, 507, 469, 508, 524, 530, 525, 543, 526, 527, 544, 545, 551, 528, 529, 531, 532, 403, 158, 96, 97, 59, 60, 103, 168, 169, 170, 63, 113, 188, 187, 64, 104, 105, 171, 172, 61, 106, 107, 62, 109, 161, 176, 110, 162, 244, 339, 340, 346, 341, 407, 408, 472, 177, 179, 251, 249, 343, 410, 474, 515, 538, 516, 478, 475, 476, 411, 477, 412, 479, 116, 189, 345, 344, 413, 250, 347, 414, 111, 178, 180, 252, 254, 253, 255, 181, 256, 257, 182, 184, 258, 348, 349, 350, 351, 352, 353, 354, 355, 259, 260, 356, 415, 357, 416, 185, 261, 480, 481, 517, 482, 417, 483, 419, 485, 418, 484, 420, 358, 183, 76, 112, 101, 186, 262, 359, 263, 360, 421, 422, 423, 361, 264, 58, 98, 159, 124, 128, 196, 198, 197, 273, 240, 334, 333, 241, 242, 335, 337, 336, 338, 406, 471, 511, 512, 534, 535, 513, 514, 536, 537, 547, 548, 404, 470, 509, 510, 533, 546, 405, 243, 160, 99, 100, 102, 163, 165, 246, 166, 247, 342, 167, 248, 65, 115, 114, 66, 28, 54, 55, 7, 30, 67, 8, 31, 9, 32, 11, 10, 33, 34, 68, 35, 69, 70, 71, 13, 39, 40, 74, 75, 77, 12, 37, 38, 73, 14, 41, 15, 42, 16, 17, 18, 44, 19, 21, 46, 82, 129, 130, 131, 47, 23, 22] := by rw [Ev.closure_fast]; kernel_rfl
theorem fInPlace : Tryz.prog.inPlace 3 = Rows.incrNoneRow.inPlace := by unfold Program.inPlace; rw [fClosure]; kernel_rfl
theorem fUnfollowed : Tryz.prog.unfollowed 3 = true := by unfold Program.unfollowed; rw [fClosure]; kernel_rfl
theorem fRecurses : Tryz.prog.recurses 3 = true := by unfold Program.recurses; rw [fUnfollowed]; rfl
theorem fNamed : Tryz.prog.varsNamed 3 = Rows.incrNoneRow.named := by unfold Program.varsNamed; rw [fClosure]; kernel_rfl
theorem fLaid : laidOutB Tryz.prog = true := Facts.fLaid
theorem fMaps : mapsRowed Tryz.prog = true := Facts.fMaps
theorem fKeys : Tryz.prog.plainKeys = Rows.incrNoneRow.plainKeys := Facts.fKeys
theorem fLifts : Tryz.prog.liftsFinal = Rows.incrNoneRow.lifted := Facts.fLifts
theorem fMake : Tryz.prog.make = some Rows.incrNoneRow.make := Facts.fMake
theorem fHeard : Tryz.prog.stopsHeard = true := Facts.fHeard
theorem facts : joinedFacts Tryz.prog 3 Tryz.f3 (OpenSpec.ofChange Rows.incrNoneSpec).bare Rows.incrNoneRow = true := by unfold joinedFacts; rw [fLaid, fMaps, fInPlace, fUnfollowed, fRecurses, fNamed, fKeys, fHeard, fLifts, fMake]; kernel_rfl
end Go.Proofs.YtddocfjaofddiaaGreatDoor.incrNone

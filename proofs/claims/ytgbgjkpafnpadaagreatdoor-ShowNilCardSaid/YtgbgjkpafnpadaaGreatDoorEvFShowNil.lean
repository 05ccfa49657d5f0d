/- Proved: closed facts of the row of ShowNil (which functions its call can come to, and what the row says of them); no condition. -/
import Derived.Test.YtgbgjkpafnpadaaGreatDoorCards
import Derived.Test.YtgbgjkpafnpadaaGreatDoorEvD
import Derived.JoinedCond
import Derived.KernelRfl
import Derived.Test.YtgbgjkpafnpadaaGreatDoorEvH
namespace Go.Proofs.YtgbgjkpafnpadaaGreatDoor.showNil
open Go
set_option maxRecDepth 100000
theorem fClosure : Tryz.prog.closure 6 = [6, 21, 39, 47, 55, 119, 120, 121, 122, 17, 40, 96, 171, 252, 138, 213, 140, 141, 299, 253, 332, 408, 466, 505, 506, 407, 539, 540, 507, 508, 541, 542, 565, 566, 246, 328, 396, 333, 247, 254, 334, 139, 255, 256, 257, 335, 336, 172, 265, 341, 200, 258, 198, 285, 377, 199, 286, 287, 133, 197, 284, 288, 378, 289, 290, 220, 303, 304, 268, 347, 418, 419, 420, 478, 409, 467, 292, 379, 175, 259, 337, 260, 338, 178, 261, 339, 380, 443, 444, 499, 534, 562, 563, 578, 589, 590, 533, 559, 564, 576, 560, 577, 561, 500, 535, 536, 538, 537, 445, 446, 447, 301, 448, 449, 450, 100, 177, 342, 410, 99, 176, 468, 469, 470, 471, 344, 411, 343, 412, 472, 509, 543, 473, 475, 510, 511, 544, 415, 416, 567, 381, 451, 452, 501, 502, 67, 131, 476, 474, 413, 414, 477, 512, 513, 514, 516, 515, 545, 568, 579, 569, 546, 547, 570, 548, 571, 517, 518, 69, 550, 549, 572, 551, 331, 406, 573, 580, 586, 581, 591, 582, 461, 462, 583, 592, 593, 594, 584, 585, 587, 588, 519, 345, 97, 101, 179, 137, 201, 291, 202, 293, 203, 294, 204, 205, 206, 207, 295, 382, 208, 296, 297, 298, 209, 210, 211, 212, 263, 262, 340, 180, 41, 98, 174, 173, 42, 79, 102, 80, 142, 143, 214, 300, 215, 103, 144, 145, 181, 264, 182, 266, 43, 104, 183, 44, 45, 105, 184, 267, 346, 417, 46, 18, 49, 48, 22, 24, 51, 110, 111, 112, 91, 113, 114, 115, 116, 117, 88, 23, 56, 57, 123, 58, 124, 125, 126, 26, 61, 62, 25, 59, 60, 127, 20, 16, 36, 82, 83, 146, 216, 84, 147, 148, 85, 37, 86, 87, 149, 217, 219, 244, 218, 302, 383, 222, 90, 164, 245, 221, 305, 384, 453, 306, 223, 233, 225, 163, 307, 314, 308, 165, 166, 248, 385, 455, 454, 167, 309, 386, 387, 456, 503, 150, 224, 226, 310, 388, 227, 311, 389, 228, 312, 390, 229, 313, 391, 230, 231, 315, 151, 232, 152, 153, 235, 234, 316, 392, 317, 154, 236, 168, 318, 319, 320, 155, 237, 156, 238, 239, 321, 322, 393, 457, 157, 240, 323, 324, 394, 458, 158, 241, 89, 93, 242, 325, 326, 395, 459, 159, 160, 161, 162, 243, 327, 38, 92, 94, 170, 251, 169, 249, 329, 250, 330, 397, 403, 465, 398, 460, 399, 400, 463, 464, 504, 401, 402, 404, 405, 95, 19, 50, 106, 185, 269, 271, 270, 348, 186, 272, 349, 281, 353, 350, 351, 280, 373, 372, 352, 354, 187, 188, 273, 274, 355, 275, 356, 108, 109, 192, 277, 276, 357, 421, 422, 479, 423, 480, 481, 520, 358, 360, 426, 424, 370, 437, 483, 482, 521, 425, 278, 359, 361, 362, 363, 364, 427, 429, 428, 430, 365, 431, 432, 366, 368, 433, 484, 485, 486, 487, 488, 489, 490, 491, 434, 435, 492, 522, 493, 523, 369, 436, 552, 553, 574, 554, 524, 555, 526, 557, 525, 556, 527, 494, 367, 279, 191, 371, 438, 495, 439, 496, 528, 529, 530, 497, 440, 193, 107, 118, 194, 282, 374, 376, 375, 441, 498, 531, 532, 558, 575, 442, 283, 195, 189, 190, 52, 54, 53] := by rw [Ev.closure_fast]; kernel_rfl
theorem fInPlace : Tryz.prog.inPlace 6 = Rows.showNilRow.inPlace := by unfold Program.inPlace; rw [fClosure]; kernel_rfl
theorem fUnfollowed : Tryz.prog.unfollowed 6 = true := by unfold Program.unfollowed; rw [fClosure]; kernel_rfl
theorem fRecurses : Tryz.prog.recurses 6 = true := by unfold Program.recurses; rw [fUnfollowed]; rfl
theorem fNamed : Tryz.prog.varsNamed 6 = Rows.showNilRow.named := by unfold Program.varsNamed; rw [fClosure]; kernel_rfl
theorem fLaid : laidOutB Tryz.prog = true := Facts.fLaid
theorem fMaps : mapsRowed Tryz.prog = true := Facts.fMaps
theorem fKeys : Tryz.prog.plainKeys = Rows.showNilRow.plainKeys := Facts.fKeys
theorem fLifts : Tryz.prog.liftsFinal = Rows.showNilRow.lifted := Facts.fLifts
theorem fMake : Tryz.prog.make = some Rows.showNilRow.make := Facts.fMake
theorem fHeard : Tryz.prog.stopsHeard = true := Facts.fHeard
theorem facts : joinedFacts Tryz.prog 6 Tryz.f6 (OpenSpec.ofChange Rows.showNilSpec).bare Rows.showNilRow = true := by unfold joinedFacts; rw [fLaid, fMaps, fInPlace, fUnfollowed, fRecurses, fNamed, fKeys, fHeard, fLifts, fMake]; kernel_rfl
end Go.Proofs.YtgbgjkpafnpadaaGreatDoor.showNil

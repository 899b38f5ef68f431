/- Written by a program of ours (gen.py) out of short specifications. By an AI agent. -/
import Derived.Test.YtgkicbaomcmfoaaGreatDoorPolyt
import Derived.Test.YtgkicbaomcmfoaaGreatDoorFxV
import Derived.Shelf.Strconv.Itoa3
import Derived.Shelf.Strings.Repeat
import Derived.Shelf.Slices.ReverseS
set_option linter.unusedVariables false
set_option linter.unusedSimpArgs false
set_option maxRecDepth 4000
namespace Go.Proofs.YtgkicbaomcmfoaaGreatDoor
open Go Go.Proofs Go.Fx Go.Shelf Go.RowKit Go.Sort
def lays171_ren : Go.Shelf.Ren := ⟨fun | 171 => 80 | 243 => 120 | 246 => 167 | 283 => 182 | 284 => 183 | 285 => 184 | 286 => 185 | 129 => 181 | 317 => 218 | 318 => 219 | 319 => 220 | 320 => 221 | 337 => 231 | 338 => 232 | n => n, fun | 3 => 3 | 9 => 9 | 2 => 2 | 4 => 4 | 171 => 238 | 0 => 0 | 53 => 45 | 37 => 35 | 5 => 5 | 173 => 240 | 212 => 271 | 51 => 54 | 20 => 20 | 213 => 272 | 46 => 124 | 232 => 284 | 233 => 285 | n => n, fun | 17 => 2 | 18 => 5 | 19 => 6 | n => n⟩
def lays105_ren : Go.Shelf.Ren := ⟨fun | 105 => 95 | 212 => 136 | 99 => 137 | 165 => 77 | 166 => 78 | 170 => 138 | 169 => 79 | 263 => 186 | 264 => 127 | 206 => 187 | 240 => 118 | 241 => 119 | 276 => 165 | 277 => 166 | n => n, fun | 9 => 9 | 3 => 3 | 4 => 4 | 20 => 20 | 0 => 0 | 46 => 124 | 109 => 200 | 5 => 5 | 72 => 130 | 76 => 134 | 51 => 54 | 146 => 198 | 53 => 45 | 148 => 191 | 70 => 128 | 37 => 35 | 75 => 133 | 127 => 183 | 164 => 223 | 80 => 136 | n => n, fun | n => n⟩
def lays17_ren : Go.Shelf.Ren := ⟨fun | 17 => 96 | n => n, fun | 24 => 87 | 9 => 9 | 3 => 3 | 4 => 4 | 0 => 0 | n => n, fun | n => n⟩
def zerB (k : Nat) : ByteArray := ⟨(List.replicate k 48).toArray⟩
end Go.Proofs.YtgkicbaomcmfoaaGreatDoor

/- A part of the proof: RingQ4. -/
import Derived.Test.YtnokmgclkediiaaDringB
